import Derived.Test.YtgiamamfnpklkaaProg
import Derived.Test.YtgiamamfnpklkaaM1
set_option linter.unusedVariables false
namespace Go.Proofs.Ytgiamamfnpklkaa
open Go Go.Mx
theorem mixed : Try.prog.follows .mixedOrders = true := by kernel_rfl
def t4 (P : Program) (code0_1 : Value) (more1_1 : Value) (h : Heap) (K : Value -> Heap -> Prop) : Prop :=
 callM P 6 #[code0_1, more1_1] h fun s52 h1 =>
 condM s52
 (K (Value.bool true) h1)
 (callM P 21 #[code0_1] h1 fun s55 h2 =>
 pop P (Instr.extract s55 0) fun s56 =>
 pop P (Instr.extract s55 1) fun s57 =>
 pop P (Instr.extract s55 2) fun s58 =>
 pop P (Instr.extract s55 3) fun s59 =>
 pop P (Instr.extract s55 4) fun s60 =>
 pop P (Instr.extract s55 5) fun s61 =>
 eop P (Instr.alloc 26 true (.tuple #[])) h2 fun g5_1 h3 =>
 uop P (Instr.storeAt 26 g5_1 s56) h3 fun q1 h4 =>
 rop P (Instr.loadAt 26 g5_1) h4 fun s63 =>
 callM P 22 #[s63, s57, s58, s59, s60, s61] h4 fun s69 h5 =>
 pop P (Instr.extract s69 0) fun s70 =>
 pop P (Instr.extract s69 1) fun s71 =>
 rop P (Instr.loadAt 26 g5_1) h5 fun s73 =>
 callM P 23 #[s73, s57, s58, s59, s60, s61] h5 fun s79 h6 =>
 pop P (Instr.extract s79 0) fun s80 =>
 pop P (Instr.extract s79 1) fun s81 =>
 rop P (Instr.loadAt 26 g5_1) h6 fun s83 =>
 callM P 24 #[s83, s57, s58, s59, s60, s61] h6 fun s89 h7 =>
 pop P (Instr.extract s89 0) fun s90 =>
 pop P (Instr.extract s89 1) fun s91 =>
 rop P (Instr.loadAt 26 g5_1) h7 fun s93 =>
 callM P 25 #[s93, s57, s58, s59, s60, s61] h7 fun s99 h8 =>
 pop P (Instr.extract s99 0) fun s100 =>
 pop P (Instr.extract s99 1) fun s101 =>
 rop P (Instr.loadAt 26 g5_1) h8 fun s103 =>
 callM P 26 #[s103, s57, s58, s59, s60, s61] h8 fun s109 h9 =>
 pop P (Instr.extract s109 0) fun s110 =>
 pop P (Instr.extract s109 1) fun s111 =>
 eop P (Instr.alloc 36 true (.tuple #[])) h9 fun gap19_1 h10 =>
 uop P (Instr.storeAt 36 gap19_1 s110) h10 fun q2 h11 =>
 rop P (Instr.loadAt 26 g5_1) h11 fun s113 =>
 callM P 27 #[s113, s57, s58, s59, s60, s61] h11 fun s119 h12 =>
 pop P (Instr.extract s119 0) fun s120 =>
 pop P (Instr.extract s119 1) fun s121 =>
 eop P (Instr.alloc 36 true (.tuple #[])) h12 fun model21_1 h13 =>
 uop P (Instr.storeAt 36 model21_1 s120) h13 fun q3 h14 =>
 rop P (Instr.loadAt 26 g5_1) h14 fun s123 =>
 callM P 28 #[s123, s57, s58, s59, s60, s61] h14 fun s129 h15 =>
 pop P (Instr.extract s129 0) fun s130 =>
 pop P (Instr.extract s129 1) fun s131 =>
 rop P (Instr.loadAt 26 g5_1) h15 fun s133 =>
 callM P 29 #[s133, s57, s58, s59, s60, s61] h15 fun s139 h16 =>
 pop P (Instr.extract s139 0) fun s140 =>
 pop P (Instr.extract s139 1) fun s141 =>
 rop P (Instr.loadAt 26 g5_1) h16 fun s143 =>
 callM P 30 #[s143, s57, s58, s59, s60, s61] h16 fun s149 h17 =>
 pop P (Instr.extract s149 0) fun s150 =>
 pop P (Instr.extract s149 1) fun s151 =>
 rop P (Instr.loadAt 26 g5_1) h17 fun s153 =>
 callM P 31 #[s153, s57, s58, s59, s60, s61] h17 fun s159 h18 =>
 pop P (Instr.extract s159 0) fun s160 =>
 pop P (Instr.extract s159 1) fun s161 =>
 pop P (binE .neq 4 (.tmp 162) (.tmp 163) s71 s81) fun s164 =>
 guardM (asG s164 false) false (fun k_1 => k_1 s70 h18) h18 fun s166 h19 =>
 guardM (asG s164 false) false (fun k_2 => k_2 s80 h19) h19 fun s167 h20 =>
 guardM (asG s164 false) false (fun k_3 => pop P (binE .neq 3 (.tmp 166) (.tmp 167) s166 s167) fun s168 =>
 k_3 s168 h20) h20 fun s168b h21 =>
 pop P (pickS s164 (Value.bool true) s168b) fun s169 =>
 guardM (asG s169 false) false (fun k_4 => k_4 s91 h21) h21 fun s171 h22 =>
 guardM (asG s169 false) false (fun k_5 => k_5 s101 h22) h22 fun s172 h23 =>
 guardM (asG s169 false) false (fun k_6 => pop P (binE .neq 4 (.tmp 171) (.tmp 172) s171 s172) fun s173 =>
 k_6 s173 h23) h23 fun s173b h24 =>
 pop P (pickS s169 (Value.bool true) s173b) fun s174 =>
 guardM (asG s174 false) false (fun k_7 => k_7 s90 h24) h24 fun s176 h25 =>
 guardM (asG s174 false) false (fun k_8 => k_8 s100 h25) h25 fun s177 h26 =>
 guardM (asG s174 false) false (fun k_9 => callM P 32 #[s176, s177] h26 fun s178 h27 =>
 k_9 s178 h27) h26 fun s178b h28 =>
 guardM (asG s174 false) false (fun k_10 => pop P (Op.unary .not s178b) fun s179 =>
 k_10 s179 h28) h28 fun s179b h29 =>
 pop P (pickS s174 (Value.bool true) s179b) fun s180 =>
 guardM (asG s180 false) false (fun k_11 => k_11 s111 h29) h29 fun s182 h30 =>
 guardM (asG s180 false) false (fun k_12 => k_12 s121 h30) h30 fun s183 h31 =>
 guardM (asG s180 false) false (fun k_13 => pop P (binE .neq 4 (.tmp 182) (.tmp 183) s182 s183) fun s184 =>
 k_13 s184 h31) h31 fun s184b h32 =>
 pop P (pickS s180 (Value.bool true) s184b) fun s185 =>
 guardM (asG s185 false) false (fun k_14 => rop P (Instr.loadAt 36 gap19_1) h32 fun s187 =>
 k_14 s187 h32) h32 fun s187b h33 =>
 guardM (asG s185 false) false (fun k_15 => rop P (Instr.loadAt 36 model21_1) h33 fun s188 =>
 k_15 s188 h33) h33 fun s188b h34 =>
 guardM (asG s185 false) false (fun k_16 => pop P (binE .neq 36 (.tmp 187) (.tmp 188) s187b s188b) fun s189 =>
 k_16 s189 h34) h34 fun s189b h35 =>
 pop P (pickS s185 (Value.bool true) s189b) fun s190 =>
 guardM (asG s190 false) false (fun k_17 => k_17 s131 h35) h35 fun s192 h36 =>
 guardM (asG s190 false) false (fun k_18 => k_18 s141 h36) h36 fun s193 h37 =>
 guardM (asG s190 false) false (fun k_19 => pop P (binE .neq 4 (.tmp 192) (.tmp 193) s192 s193) fun s194 =>
 k_19 s194 h37) h37 fun s194b h38 =>
 pop P (pickS s190 (Value.bool true) s194b) fun s195 =>
 guardM (asG s195 false) false (fun k_20 => k_20 s130 h38) h38 fun s197 h39 =>
 guardM (asG s195 false) false (fun k_21 => k_21 s140 h39) h39 fun s198 h40 =>
 guardM (asG s195 false) false (fun k_22 => pop P (binE .neq 3 (.tmp 197) (.tmp 198) s197 s198) fun s199 =>
 k_22 s199 h40) h40 fun s199b h41 =>
 pop P (pickS s195 (Value.bool true) s199b) fun s200 =>
 guardM (asG s200 false) false (fun k_23 => k_23 s151 h41) h41 fun s202 h42 =>
 guardM (asG s200 false) false (fun k_24 => k_24 s161 h42) h42 fun s203 h43 =>
 guardM (asG s200 false) false (fun k_25 => pop P (binE .neq 4 (.tmp 202) (.tmp 203) s202 s203) fun s204 =>
 k_25 s204 h43) h43 fun s204b h44 =>
 pop P (pickS s200 (Value.bool true) s204b) fun s205 =>
 guardM (asG s205 false) false (fun k_26 => k_26 s150 h44) h44 fun s207 h45 =>
 guardM (asG s205 false) false (fun k_27 => k_27 s160 h45) h45 fun s208 h46 =>
 guardM (asG s205 false) false (fun k_28 => callM P 32 #[s207, s208] h46 fun s209 h47 =>
 k_28 s209 h47) h46 fun s209b h48 =>
 guardM (asG s205 false) false (fun k_29 => pop P (Op.unary .not s209b) fun s210 =>
 k_29 s210 h48) h48 fun s210b h49 =>
 pop P (pickS s205 (Value.bool true) s210b) fun s211 =>
 guardM (asG s211 false) false (fun k_30 => k_30 s91 h49) h49 fun s213 h50 =>
 guardM (asG s211 false) false (fun k_31 => k_31 s71 h50) h50 fun s214 h51 =>
 guardM (asG s211 false) false (fun k_32 => pop P (binE .neq 4 (.tmp 213) (.tmp 214) s213 s214) fun s215 =>
 k_32 s215 h51) h51 fun s215b h52 =>
 pop P (pickS s211 (Value.bool true) s215b) fun s216 =>
 guardM (asG s216 false) false (fun k_33 => k_33 s111 h52) h52 fun s218 h53 =>
 guardM (asG s216 false) false (fun k_34 => k_34 s71 h53) h53 fun s219 h54 =>
 guardM (asG s216 false) false (fun k_35 => pop P (binE .neq 4 (.tmp 218) (.tmp 219) s218 s219) fun s220 =>
 k_35 s220 h54) h54 fun s220b h55 =>
 pop P (pickS s216 (Value.bool true) s220b) fun s221 =>
 guardM (asG s221 false) false (fun k_36 => k_36 s131 h55) h55 fun s223 h56 =>
 guardM (asG s221 false) false (fun k_37 => k_37 s71 h56) h56 fun s224 h57 =>
 guardM (asG s221 false) false (fun k_38 => pop P (binE .neq 4 (.tmp 223) (.tmp 224) s223 s224) fun s225 =>
 k_38 s225 h57) h57 fun s225b h58 =>
 pop P (pickS s221 (Value.bool true) s225b) fun s226 =>
 guardM (asG s226 false) false (fun k_39 => k_39 s151 h58) h58 fun s228 h59 =>
 guardM (asG s226 false) false (fun k_40 => k_40 s71 h59) h59 fun s229 h60 =>
 guardM (asG s226 false) false (fun k_41 => pop P (binE .neq 4 (.tmp 228) (.tmp 229) s228 s229) fun s230 =>
 k_41 s230 h60) h60 fun s230b h61 =>
 pop P (pickS s226 (Value.bool true) s230b) fun s231 =>
 condM s231
 (K (Value.bool false) h61)
 (∃ J1 : List Value -> Heap -> Prop, (condM s71
 (rop P (Instr.loadAt 26 g5_1) h61 fun s234 =>
 callM P 33 #[s234, s59, s60] h61 fun s237 h62 =>
 pop P (Instr.extract s237 0) fun s238 =>
 pop P (Instr.extract s237 1) fun s239 =>
 eop P (Instr.alloc 36 true (.tuple #[])) h62 fun bound31_1 h63 =>
 uop P (Instr.storeAt 36 bound31_1 s238) h63 fun q4 h64 =>
 pop P (Op.unary .not s239) fun s241 =>
 guardM (asG s241 false) false (fun k_42 => k_42 s90 h64) h64 fun s243 h65 =>
 guardM (asG s241 false) false (fun k_43 => pop P (lenS 37 3 s243) fun s244 =>
 k_43 s244 h65) h65 fun s244b h66 =>
 guardM (asG s241 false) false (fun k_44 => k_44 s61 h66) h66 fun s245 h67 =>
 guardM (asG s241 false) false (fun k_45 => pop P (binE .neq 3 (.tmp 244) (.tmp 245) s244b s245) fun s246 =>
 k_45 s246 h67) h67 fun s246b h68 =>
 pop P (pickS s241 (Value.bool true) s246b) fun s247 =>
 guardM (asG s247 false) false (fun k_46 => k_46 s90 h68) h68 fun s249 h69 =>
 guardM (asG s247 false) false (fun k_47 => callM P 34 #[s249] h69 fun s250 h70 =>
 k_47 s250 h70) h69 fun s250b h71 =>
 guardM (asG s247 false) false (fun k_48 => k_48 s70 h71) h71 fun s251 h72 =>
 guardM (asG s247 false) false (fun k_49 => pop P (binE .neq 3 (.tmp 250) (.tmp 251) s250b s251) fun s252 =>
 k_49 s252 h72) h72 fun s252b h73 =>
 pop P (pickS s247 (Value.bool true) s252b) fun s253 =>
 guardM (asG s253 false) false (fun k_50 => pop P (Instr.fieldAt 36 gap19_1 0) fun s255 =>
 k_50 s255 h73) h73 fun s255b h74 =>
 guardM (asG s253 false) false (fun k_51 => rop P (Instr.loadAt 3 s255b) h74 fun s256 =>
 k_51 s256 h74) h74 fun s256b h75 =>
 guardM (asG s253 false) false (fun k_52 => pop P (Instr.fieldAt 36 bound31_1 1) fun s257 =>
 k_52 s257 h75) h75 fun s257b h76 =>
 guardM (asG s253 false) false (fun k_53 => rop P (Instr.loadAt 3 s257b) h76 fun s258 =>
 k_53 s258 h76) h76 fun s258b h77 =>
 guardM (asG s253 false) false (fun k_54 => pop P (binA .mul 3 s256b s258b) fun s259 =>
 k_54 s259 h77) h77 fun s259b h78 =>
 guardM (asG s253 false) false (fun k_55 => pop P (Instr.fieldAt 36 bound31_1 0) fun s260 =>
 k_55 s260 h78) h78 fun s260b h79 =>
 guardM (asG s253 false) false (fun k_56 => rop P (Instr.loadAt 3 s260b) h79 fun s261 =>
 k_56 s261 h79) h79 fun s261b h80 =>
 guardM (asG s253 false) false (fun k_57 => pop P (Instr.fieldAt 36 gap19_1 1) fun s262 =>
 k_57 s262 h80) h80 fun s262b h81 =>
 guardM (asG s253 false) false (fun k_58 => rop P (Instr.loadAt 3 s262b) h81 fun s263 =>
 k_58 s263 h81) h81 fun s263b h82 =>
 guardM (asG s253 false) false (fun k_59 => pop P (binA .mul 3 s261b s263b) fun s264 =>
 k_59 s264 h82) h82 fun s264b h83 =>
 guardM (asG s253 false) false (fun k_60 => pop P (binA .gtr 3 s259b s264b) fun s265 =>
 k_60 s265 h83) h83 fun s265b h84 =>
 pop P (pickS s253 (Value.bool true) s265b) fun s266 =>
 condM s266
 (K (Value.bool false) h84)
 (∃ J2 : List Value -> Heap -> Prop, (pop P (binA .gtr 3 s61 (.int .i64 0)) fun s268 =>
 condM s268
 (rop P (Instr.loadAt 26 g5_1) h84 fun s270 =>
 pop P (binA .sub 3 s61 (.int .i64 1)) fun s276 =>
 callM P 30 #[s270, s57, s58, s59, s60, s276] h84 fun s277 h85 =>
 pop P (Instr.extract s277 0) fun s278 =>
 pop P (Instr.extract s277 1) fun s279 =>
 rop P (Instr.loadAt 26 g5_1) h85 fun s281 =>
 callM P 24 #[s281, s278, s58, s59, s60, (.int .i64 1)] h85 fun s286 h86 =>
 pop P (Instr.extract s286 0) fun s287 =>
 pop P (Instr.extract s286 1) fun s288 =>
 rop P (Instr.loadAt 26 g5_1) h86 fun s290 =>
 callM P 30 #[s290, s278, s58, s59, s60, (.int .i64 1)] h86 fun s295 h87 =>
 pop P (Instr.extract s295 0) fun s296 =>
 pop P (Instr.extract s295 1) fun s297 =>
 rop P (Instr.loadAt 26 g5_1) h87 fun s299 =>
 pop P (binA .sub 3 s61 (.int .i64 1)) fun s305 =>
 callM P 22 #[s299, s57, s58, s59, s60, s305] h87 fun s306 h88 =>
 pop P (Instr.extract s306 0) fun s307 =>
 pop P (Instr.extract s306 1) fun s308 =>
 pop P (Op.unary .not s279) fun s310 =>
 guardM (asG s310 false) false (fun k_61 => k_61 s288 h88) h88 fun s312 h89 =>
 guardM (asG s310 false) false (fun k_62 => pop P (Op.unary .not s312) fun s313 =>
 k_62 s313 h89) h89 fun s313b h90 =>
 pop P (pickS s310 (Value.bool true) s313b) fun s314 =>
 guardM (asG s314 false) false (fun k_63 => k_63 s287 h90) h90 fun s316 h91 =>
 guardM (asG s314 false) false (fun k_64 => pop P (lenS 37 3 s316) fun s317 =>
 k_64 s317 h91) h91 fun s317b h92 =>
 guardM (asG s314 false) false (fun k_65 => pop P (binE .neq 3 (.tmp 317) (.const (.int .i64 1)) s317b (.int .i64 1)) fun s318 =>
 k_65 s318 h92) h92 fun s318b h93 =>
 pop P (pickS s314 (Value.bool true) s318b) fun s319 =>
 guardM (asG s319 false) false (fun k_66 => k_66 s287 h93) h93 fun s321 h94 =>
 guardM (asG s319 false) false (fun k_67 => pop P (Instr.indexAt 37 s321 (.int .i64 0)) fun s322 =>
 k_67 s322 h94) h94 fun s322b h95 =>
 guardM (asG s319 false) false (fun k_68 => rop P (Instr.loadAt 3 s322b) h95 fun s323 =>
 k_68 s323 h95) h95 fun s323b h96 =>
 guardM (asG s319 false) false (fun k_69 => k_69 s90 h96) h96 fun s324 h97 =>
 guardM (asG s319 false) false (fun k_70 => k_70 s61 h97) h97 fun s325 h98 =>
 guardM (asG s319 false) false (fun k_71 => pop P (binA .sub 3 s325 (.int .i64 1)) fun s326 =>
 k_71 s326 h98) h98 fun s326b h99 =>
 guardM (asG s319 false) false (fun k_72 => pop P (Instr.indexAt 37 s324 s326b) fun s327 =>
 k_72 s327 h99) h99 fun s327b h100 =>
 guardM (asG s319 false) false (fun k_73 => rop P (Instr.loadAt 3 s327b) h100 fun s328 =>
 k_73 s328 h100) h100 fun s328b h101 =>
 guardM (asG s319 false) false (fun k_74 => pop P (binE .neq 3 (.tmp 323) (.tmp 328) s323b s328b) fun s329 =>
 k_74 s329 h101) h101 fun s329b h102 =>
 pop P (pickS s319 (Value.bool true) s329b) fun s330 =>
 guardM (asG s330 false) false (fun k_75 => k_75 s297 h102) h102 fun s332 h103 =>
 guardM (asG s330 false) false (fun k_76 => pop P (Op.unary .not s332) fun s333 =>
 k_76 s333 h103) h103 fun s333b h104 =>
 pop P (pickS s330 (Value.bool true) s333b) fun s334 =>
 guardM (asG s334 false) false (fun k_77 => k_77 s296 h104) h104 fun s336 h105 =>
 guardM (asG s334 false) false (fun k_78 => k_78 s150 h105) h105 fun s337 h106 =>
 guardM (asG s334 false) false (fun k_79 => callM P 32 #[s336, s337] h106 fun s338 h107 =>
 k_79 s338 h107) h106 fun s338b h108 =>
 (∃ b2 : Bool, asG s319 false = .bool b2 /\ (b2 = false -> ∀ w : World, w.heap = h108 -> (Instr.loadAt 3 s327b).run P w = .ok s328b w) /\ (b2 ≠ false -> s328b = undef)) /\
 (∃ b1 : Bool, asG s319 false = .bool b1 /\ (b1 = false -> ∀ w : World, w.heap = h108 -> (Instr.loadAt 3 s322b).run P w = .ok s323b w) /\ (b1 ≠ false -> s323b = undef)) /\
 guardM (asG s334 false) false (fun k_80 => pop P (Op.unary .not s338b) fun s339 =>
 k_80 s339 h108) h108 fun s339b h109 =>
 pop P (pickS s334 (Value.bool true) s339b) fun s340 =>
 guardM (asG s340 false) false (fun k_81 => k_81 s308 h109) h109 fun s342 h110 =>
 guardM (asG s340 false) false (fun k_82 => pop P (Op.unary .not s342) fun s343 =>
 k_82 s343 h110) h110 fun s343b h111 =>
 pop P (pickS s340 (Value.bool true) s343b) fun s344 =>
 guardM (asG s344 false) false (fun k_83 => k_83 s307 h111) h111 fun s346 h112 =>
 guardM (asG s344 false) false (fun k_84 => k_84 s287 h112) h112 fun s347 h113 =>
 guardM (asG s344 false) false (fun k_85 => pop P (Instr.indexAt 37 s347 (.int .i64 0)) fun s348 =>
 k_85 s348 h113) h113 fun s348b h114 =>
 guardM (asG s344 false) false (fun k_86 => rop P (Instr.loadAt 3 s348b) h114 fun s349 =>
 k_86 s349 h114) h114 fun s349b h115 =>
 guardM (asG s344 false) false (fun k_87 => pop P (binA .add 3 s346 s349b) fun s350 =>
 k_87 s350 h115) h115 fun s350b h116 =>
 guardM (asG s344 false) false (fun k_88 => k_88 s70 h116) h116 fun s351 h117 =>
 guardM (asG s344 false) false (fun k_89 => pop P (binE .neq 3 (.tmp 350) (.tmp 351) s350b s351) fun s352 =>
 k_89 s352 h117) h117 fun s352b h118 =>
 pop P (pickS s344 (Value.bool true) s352b) fun s353 =>
 condM s353
 (K (Value.bool false) h118)
 (J2 [] h118))
 (J2 [] h84)) /\
 ∀ (junk1 : Nat -> Value) (h119 : Heap), J2 [] h119 ->
 rop P (Instr.loadAt 26 g5_1) h119 fun s355 =>
 callM P 22 #[s355, s57, s58, s60, s59, s61] h119 fun s361 h120 =>
 pop P (Instr.extract s361 0) fun s362 =>
 pop P (Instr.extract s361 1) fun s363 =>
 pop P (Op.unary .not s363) fun s365 =>
 guardM (asG s365 false) false (fun k_90 => k_90 s362 h120) h120 fun s367 h121 =>
 guardM (asG s365 false) false (fun k_91 => k_91 s61 h121) h121 fun s368 h122 =>
 guardM (asG s365 false) false (fun k_92 => k_92 s70 h122) h122 fun s369 h123 =>
 guardM (asG s365 false) false (fun k_93 => pop P (binA .sub 3 s368 s369) fun s370 =>
 k_93 s370 h123) h123 fun s370b h124 =>
 guardM (asG s365 false) false (fun k_94 => pop P (binE .neq 3 (.tmp 367) (.tmp 370) s367 s370b) fun s371 =>
 k_94 s371 h124) h124 fun s371b h125 =>
 pop P (pickS s365 (Value.bool true) s371b) fun s372 =>
 condM s372
 (K (Value.bool false) h125)
 (J1 [] h125)))
 (J1 [] h61)) /\
 ∀ (junk2 : Nat -> Value) (h126 : Heap), J1 [] h126 ->
 callM P 35 #[more1_1] h126 fun s375 h127 =>
 pop P (Instr.extract s375 0) fun s376 =>
 pop P (Instr.extract s375 1) fun s377 =>
 pop P (Instr.extract s375 2) fun s378 =>
 eop P (Instr.alloc 26 true (.tuple #[])) h127 fun h43_1 h128 =>
 uop P (Instr.storeAt 26 h43_1 s376) h128 fun q5 h129 =>
 rop P (Instr.loadAt 26 h43_1) h129 fun s380 =>
 callM P 33 #[s380, s377, s378] h129 fun s383 h130 =>
 pop P (Instr.extract s383 0) fun s384 =>
 pop P (Instr.extract s383 1) fun s385 =>
 eop P (Instr.alloc 36 true (.tuple #[])) h130 fun bound46_1 h131 =>
 uop P (Instr.storeAt 36 bound46_1 s384) h131 fun q6 h132 =>
 rop P (Instr.loadAt 26 h43_1) h132 fun s387 =>
 callM P 36 #[s387, s377, s378] h132 fun s390 h133 =>
 pop P (Instr.extract s390 0) fun s391 =>
 pop P (Instr.extract s390 1) fun s392 =>
 eop P (Instr.alloc 36 true (.tuple #[])) h133 fun number48_1 h134 =>
 uop P (Instr.storeAt 36 number48_1 s391) h134 fun q7 h135 =>
 pop P (binE .eql 4 (.tmp 393) (.tmp 394) s385 s392) fun s395 =>
 guardM (asG s395 true) true (fun k_95 => rop P (Instr.loadAt 36 bound46_1) h135 fun s397 =>
 k_95 s397 h135) h135 fun s397b h136 =>
 guardM (asG s395 true) true (fun k_96 => rop P (Instr.loadAt 36 number48_1) h136 fun s398 =>
 k_96 s398 h136) h136 fun s398b h137 =>
 guardM (asG s395 true) true (fun k_97 => pop P (binE .eql 36 (.tmp 397) (.tmp 398) s397b s398b) fun s399 =>
 k_97 s399 h137) h137 fun s399b h138 =>
 pop P (pickS s395 s399b (Value.bool false)) fun s400 =>
 guardM (asG s400 true) true (fun k_98 => k_98 s385 h138) h138 fun s402 h139 =>
 guardM (asG s400 true) true (fun k_99 => pop P (Op.unary .not s402) fun s403 =>
 k_99 s403 h139) h139 fun s403b h140 =>
 guardM (asG s400 true) true (fun k_100 => k_100 s403b h140) h140 fun s404 h141 =>
 guardM (asG s404 false) false (fun k_101 => pop P (Instr.fieldAt 36 bound46_1 0) fun s405 =>
 k_101 s405 h141) h141 fun s405b h142 =>
 guardM (asG s404 false) false (fun k_102 => rop P (Instr.loadAt 3 s405b) h142 fun s406 =>
 k_102 s406 h142) h142 fun s406b h143 =>
 guardM (asG s404 false) false (fun k_103 => pop P (Instr.fieldAt 36 bound46_1 1) fun s407 =>
 k_103 s407 h143) h143 fun s407b h144 =>
 guardM (asG s404 false) false (fun k_104 => rop P (Instr.loadAt 3 s407b) h144 fun s408 =>
 k_104 s408 h144) h144 fun s408b h145 =>
 guardM (asG s404 false) false (fun k_105 => pop P (binA .geq 3 s406b s408b) fun s409 =>
 k_105 s409 h145) h145 fun s409b h146 =>
 guardM (asG s400 true) true (fun k_106 => pop P (pickS s404 (Value.bool true) s409b) fun s410 =>
 k_106 s410 h146) h146 fun s410b h147 =>
 pop P (pickS s400 s410b (Value.bool false)) fun s411 =>
 K s411 h147))
theorem e4 (code0_1 : Value) (more1_1 : Value) (h : Heap) (K : Value -> Heap -> Prop) : wpA Try.prog 412 (anOf [(32767, []), (1048555, [])]) (bodyOf Try.f4) 1 (fun A h => resA Try.prog A h K [.tmp 4]) (fun _ _ _ => False) (fun A h => resA Try.prog A h K [.tmp 4]) (aargs [code0_1, more1_1] 0) h = t4 Try.prog code0_1 more1_1 h K := by kernel_rfl
theorem c4 (code0_1 : Value) (more1_1 : Value) (h : Heap) (K : Value -> Heap -> Prop) (H : t4 Try.prog code0_1 more1_1 h K) : callM Try.prog 4 #[code0_1, more1_1] h K :=
  callM_of_wpA mixed (fn := Try.f4) Try.func4 (c := bodyOf Try.f4) rfl (of_decide_eq_true (by kernel_rfl)) (anOf [(32767, []), (1048555, [])]) 410 412 (by kernel_rfl) rfl [.tmp 4] (by kernel_rfl) (args := [code0_1, more1_1]) (by rw [e4]; exact H)
def t6 (P : Program) (code0_1 : Value) (more1_1 : Value) (h : Heap) (K : Value -> Heap -> Prop) : Prop :=
 pop P (lenS 22 3 code0_1) fun s6 =>
 pop P (binA .gtr 3 s6 (.int .i64 1048576)) fun s7 =>
 guardM (asG s7 false) false (fun k_1 => k_1 more1_1 h) h fun s9 h1 =>
 guardM (asG s7 false) false (fun k_2 => pop P (lenS 22 3 s9) fun s10 =>
 k_2 s10 h1) h1 fun s10b h2 =>
 guardM (asG s7 false) false (fun k_3 => k_3 code0_1 h2) h2 fun s11 h3 =>
 guardM (asG s7 false) false (fun k_4 => pop P (lenS 22 3 s11) fun s12 =>
 k_4 s12 h3) h3 fun s12b h4 =>
 guardM (asG s7 false) false (fun k_5 => pop P (binA .sub 3 (.int .i64 1048576) s12b) fun s13 =>
 k_5 s13 h4) h4 fun s13b h5 =>
 guardM (asG s7 false) false (fun k_6 => pop P (binA .gtr 3 s10b s13b) fun s14 =>
 k_6 s14 h5) h5 fun s14b h6 =>
 pop P (pickS s7 (Value.bool true) s14b) fun s15 =>
 K s15 h6
theorem e6 (code0_1 : Value) (more1_1 : Value) (h : Heap) (K : Value -> Heap -> Prop) : wpA Try.prog 16 (anOf []) (bodyOf Try.f6) 1 (fun A h => resA Try.prog A h K [.tmp 4]) (fun _ _ _ => False) (fun A h => resA Try.prog A h K [.tmp 4]) (aargs [code0_1, more1_1] 0) h = t6 Try.prog code0_1 more1_1 h K := by kernel_rfl
theorem c6 (code0_1 : Value) (more1_1 : Value) (h : Heap) (K : Value -> Heap -> Prop) (H : t6 Try.prog code0_1 more1_1 h K) : callM Try.prog 6 #[code0_1, more1_1] h K :=
  callM_of_wpA mixed (fn := Try.f6) Try.func6 (c := bodyOf Try.f6) rfl (of_decide_eq_true (by kernel_rfl)) (anOf []) 14 16 (by kernel_rfl) rfl [.tmp 4] (by kernel_rfl) (args := [code0_1, more1_1]) (by rw [e6]; exact H)
def t7 (P : Program) (code0_1 : Value) (h : Heap) (K : Value -> Heap -> Prop) : Prop :=
 eop P (Instr.alloc 26 true (.tuple #[])) h fun s2 h1 =>
 pop P (Instr.build 69 #[(0, code0_1)]) fun s7 =>
 eop P (Instr.box 69 s7) h1 fun s8 h2 =>
 callM P 57 #[s8] h2 fun s10 h3 =>
 pop P (Instr.extract s10 0) fun s11 =>
 pop P (Instr.extract s10 1) fun s12 =>
 pop P (Instr.extract s10 2) fun s13 =>
 uop P (Instr.storeAt 26 s2 s11) h3 fun q1 h4 =>
 rop P (Instr.loadAt 26 s2) h4 fun r_1 =>
 K (.tuple #[r_1, s12, s13]) h4
theorem e7 (code0_1 : Value) (h : Heap) (K : Value -> Heap -> Prop) : wpA Try.prog 14 (anOf []) (bodyOf Try.f7) 1 (fun A h => resA Try.prog A h K [.cell 2 26, .tmp 3, .tmp 4]) (fun _ _ _ => False) (fun A h => resA Try.prog A h K [.cell 2 26, .tmp 3, .tmp 4]) (aargs [code0_1] 0) h = t7 Try.prog code0_1 h K := by kernel_rfl
theorem c7 (code0_1 : Value) (h : Heap) (K : Value -> Heap -> Prop) (H : t7 Try.prog code0_1 h K) : callM Try.prog 7 #[code0_1] h K :=
  callM_of_wpA mixed (fn := Try.f7) Try.func7 (c := bodyOf Try.f7) rfl (of_decide_eq_true (by kernel_rfl)) (anOf []) 13 14 (by kernel_rfl) rfl [.cell 2 26, .tmp 3, .tmp 4] (by kernel_rfl) (args := [code0_1]) (by rw [e7]; exact H)
def t21 (P : Program) (code0_1 : Value) (h : Heap) (K : Value -> Heap -> Prop) : Prop :=
 eop P (Instr.alloc 26 true (.tuple #[])) h fun s2 h1 =>
 pop P (Instr.build 69 #[(0, code0_1)]) fun s10 =>
 eop P (Instr.box 69 s10) h1 fun s11 h2 =>
 callM P 78 #[s11] h2 fun s13 h3 =>
 pop P (Instr.extract s13 0) fun s14 =>
 pop P (Instr.extract s13 1) fun s15 =>
 pop P (Instr.extract s13 2) fun s16 =>
 pop P (Instr.extract s13 3) fun s17 =>
 pop P (Instr.extract s13 4) fun s18 =>
 pop P (Instr.extract s13 5) fun s19 =>
 uop P (Instr.storeAt 26 s2 s14) h3 fun q1 h4 =>
 rop P (Instr.loadAt 26 s2) h4 fun r_1 =>
 K (.tuple #[r_1, s15, s16, s17, s18, s19]) h4
theorem e21 (code0_1 : Value) (h : Heap) (K : Value -> Heap -> Prop) : wpA Try.prog 20 (anOf []) (bodyOf Try.f21) 1 (fun A h => resA Try.prog A h K [.cell 2 26, .tmp 3, .tmp 4, .tmp 5, .tmp 6, .tmp 7]) (fun _ _ _ => False) (fun A h => resA Try.prog A h K [.cell 2 26, .tmp 3, .tmp 4, .tmp 5, .tmp 6, .tmp 7]) (aargs [code0_1] 0) h = t21 Try.prog code0_1 h K := by kernel_rfl
theorem c21 (code0_1 : Value) (h : Heap) (K : Value -> Heap -> Prop) (H : t21 Try.prog code0_1 h K) : callM Try.prog 21 #[code0_1] h K :=
  callM_of_wpA mixed (fn := Try.f21) Try.func21 (c := bodyOf Try.f21) rfl (of_decide_eq_true (by kernel_rfl)) (anOf []) 19 20 (by kernel_rfl) rfl [.cell 2 26, .tmp 3, .tmp 4, .tmp 5, .tmp 6, .tmp 7] (by kernel_rfl) (args := [code0_1]) (by rw [e21]; exact H)
def t22 (P : Program) (g0_1 : Value) (rotors1_1 : Value) (p2_1 : Value) (a3_1 : Value) (b4_1 : Value) (n5_1 : Value) (h : Heap) (K : Value -> Heap -> Prop) : Prop :=
 eop P (Instr.box 26 g0_1) h fun g6_1 h1 =>
 rop P (Instr.loadAt 26 g6_1) h1 fun s19 =>
 callM P 79 #[s19, rotors1_1, p2_1, a3_1, b4_1, n5_1] h1 fun s25 h2 =>
 pop P (Instr.extract s25 0) fun s26 =>
 pop P (Instr.extract s25 1) fun s27 =>
 pop P (Instr.extract s25 2) fun s28 =>
 pop P (Instr.extract s25 3) fun s29 =>
 callM P 80 #[s26] h2 fun s31 h3 =>
 K (.tuple #[s31, s29]) h3
theorem e22 (g0_1 : Value) (rotors1_1 : Value) (p2_1 : Value) (a3_1 : Value) (b4_1 : Value) (n5_1 : Value) (h : Heap) (K : Value -> Heap -> Prop) : wpA Try.prog 33 (anOf []) (bodyOf Try.f22) 1 (fun A h => resA Try.prog A h K [.tmp 12, .tmp 13]) (fun _ _ _ => False) (fun A h => resA Try.prog A h K [.tmp 12, .tmp 13]) (aargs [g0_1, rotors1_1, p2_1, a3_1, b4_1, n5_1] 0) h = t22 Try.prog g0_1 rotors1_1 p2_1 a3_1 b4_1 n5_1 h K := by kernel_rfl
theorem c22 (g0_1 : Value) (rotors1_1 : Value) (p2_1 : Value) (a3_1 : Value) (b4_1 : Value) (n5_1 : Value) (h : Heap) (K : Value -> Heap -> Prop) (H : t22 Try.prog g0_1 rotors1_1 p2_1 a3_1 b4_1 n5_1 h K) : callM Try.prog 22 #[g0_1, rotors1_1, p2_1, a3_1, b4_1, n5_1] h K :=
  callM_of_wpA mixed (fn := Try.f22) Try.func22 (c := bodyOf Try.f22) rfl (of_decide_eq_true (by kernel_rfl)) (anOf []) 27 33 (by kernel_rfl) rfl [.tmp 12, .tmp 13] (by kernel_rfl) (args := [g0_1, rotors1_1, p2_1, a3_1, b4_1, n5_1]) (by rw [e22]; exact H)
def t23 (P : Program) (g0_1 : Value) (rotors1_1 : Value) (p2_1 : Value) (a3_1 : Value) (b4_1 : Value) (n5_1 : Value) (h : Heap) (K : Value -> Heap -> Prop) : Prop :=
 eop P (Instr.box 26 g0_1) h fun g6_1 h1 =>
 rop P (Instr.loadAt 26 g6_1) h1 fun s14 =>
 callM P 81 #[s14, rotors1_1, p2_1, a3_1, b4_1, n5_1] h1 fun s20 h2 =>
 pop P (Op.unary .not s20) fun s21 =>
 condM s21
 (K (.tuple #[(.int .i64 0), (Value.bool false)]) h2)
 (rop P (Instr.loadAt 26 g6_1) h2 fun s22 =>
 callM P 83 #[s22, rotors1_1, p2_1, a3_1, b4_1, n5_1] h2 fun s28 h3 =>
 pop P (Instr.field 91 s28 0) fun s29 =>
 callM P 82 #[s29] h3 fun s30 h4 =>
 K (.tuple #[s30, (Value.bool true)]) h4)
theorem e23 (g0_1 : Value) (rotors1_1 : Value) (p2_1 : Value) (a3_1 : Value) (b4_1 : Value) (n5_1 : Value) (h : Heap) (K : Value -> Heap -> Prop) : wpA Try.prog 31 (anOf []) (bodyOf Try.f23) 1 (fun A h => resA Try.prog A h K [.tmp 12, .tmp 13]) (fun _ _ _ => False) (fun A h => resA Try.prog A h K [.tmp 12, .tmp 13]) (aargs [g0_1, rotors1_1, p2_1, a3_1, b4_1, n5_1] 0) h = t23 Try.prog g0_1 rotors1_1 p2_1 a3_1 b4_1 n5_1 h K := by kernel_rfl
theorem c23 (g0_1 : Value) (rotors1_1 : Value) (p2_1 : Value) (a3_1 : Value) (b4_1 : Value) (n5_1 : Value) (h : Heap) (K : Value -> Heap -> Prop) (H : t23 Try.prog g0_1 rotors1_1 p2_1 a3_1 b4_1 n5_1 h K) : callM Try.prog 23 #[g0_1, rotors1_1, p2_1, a3_1, b4_1, n5_1] h K :=
  callM_of_wpA mixed (fn := Try.f23) Try.func23 (c := bodyOf Try.f23) rfl (of_decide_eq_true (by kernel_rfl)) (anOf []) 25 31 (by kernel_rfl) rfl [.tmp 12, .tmp 13] (by kernel_rfl) (args := [g0_1, rotors1_1, p2_1, a3_1, b4_1, n5_1]) (by rw [e23]; exact H)
def t24 (P : Program) (g0_1 : Value) (rotors1_1 : Value) (p2_1 : Value) (a3_1 : Value) (b4_1 : Value) (n5_1 : Value) (h : Heap) (K : Value -> Heap -> Prop) : Prop :=
 eop P (Instr.box 26 g0_1) h fun g6_1 h1 =>
 rop P (Instr.loadAt 26 g6_1) h1 fun s19 =>
 callM P 79 #[s19, rotors1_1, p2_1, a3_1, b4_1, n5_1] h1 fun s25 h2 =>
 pop P (Instr.extract s25 0) fun s26 =>
 pop P (Instr.extract s25 1) fun s27 =>
 pop P (Instr.extract s25 2) fun s28 =>
 pop P (Instr.extract s25 3) fun s29 =>
 K (.tuple #[s26, s29]) h2
theorem e24 (g0_1 : Value) (rotors1_1 : Value) (p2_1 : Value) (a3_1 : Value) (b4_1 : Value) (n5_1 : Value) (h : Heap) (K : Value -> Heap -> Prop) : wpA Try.prog 32 (anOf []) (bodyOf Try.f24) 1 (fun A h => resA Try.prog A h K [.tmp 12, .tmp 13]) (fun _ _ _ => False) (fun A h => resA Try.prog A h K [.tmp 12, .tmp 13]) (aargs [g0_1, rotors1_1, p2_1, a3_1, b4_1, n5_1] 0) h = t24 Try.prog g0_1 rotors1_1 p2_1 a3_1 b4_1 n5_1 h K := by kernel_rfl
theorem c24 (g0_1 : Value) (rotors1_1 : Value) (p2_1 : Value) (a3_1 : Value) (b4_1 : Value) (n5_1 : Value) (h : Heap) (K : Value -> Heap -> Prop) (H : t24 Try.prog g0_1 rotors1_1 p2_1 a3_1 b4_1 n5_1 h K) : callM Try.prog 24 #[g0_1, rotors1_1, p2_1, a3_1, b4_1, n5_1] h K :=
  callM_of_wpA mixed (fn := Try.f24) Try.func24 (c := bodyOf Try.f24) rfl (of_decide_eq_true (by kernel_rfl)) (anOf []) 26 32 (by kernel_rfl) rfl [.tmp 12, .tmp 13] (by kernel_rfl) (args := [g0_1, rotors1_1, p2_1, a3_1, b4_1, n5_1]) (by rw [e24]; exact H)
def t25 (P : Program) (g0_1 : Value) (rotors1_1 : Value) (p2_1 : Value) (a3_1 : Value) (b4_1 : Value) (n5_1 : Value) (h : Heap) (K : Value -> Heap -> Prop) : Prop :=
 eop P (Instr.box 26 g0_1) h fun g6_1 h1 =>
 rop P (Instr.loadAt 26 g6_1) h1 fun s14 =>
 callM P 81 #[s14, rotors1_1, p2_1, a3_1, b4_1, n5_1] h1 fun s20 h2 =>
 pop P (Op.unary .not s20) fun s21 =>
 condM s21
 (K (.tuple #[(Value.slice none 0 0), (Value.bool false)]) h2)
 (rop P (Instr.loadAt 26 g6_1) h2 fun s22 =>
 callM P 83 #[s22, rotors1_1, p2_1, a3_1, b4_1, n5_1] h2 fun s28 h3 =>
 pop P (Instr.field 91 s28 0) fun s29 =>
 K (.tuple #[s29, (Value.bool true)]) h3)
theorem e25 (g0_1 : Value) (rotors1_1 : Value) (p2_1 : Value) (a3_1 : Value) (b4_1 : Value) (n5_1 : Value) (h : Heap) (K : Value -> Heap -> Prop) : wpA Try.prog 30 (anOf []) (bodyOf Try.f25) 1 (fun A h => resA Try.prog A h K [.tmp 12, .tmp 13]) (fun _ _ _ => False) (fun A h => resA Try.prog A h K [.tmp 12, .tmp 13]) (aargs [g0_1, rotors1_1, p2_1, a3_1, b4_1, n5_1] 0) h = t25 Try.prog g0_1 rotors1_1 p2_1 a3_1 b4_1 n5_1 h K := by kernel_rfl
theorem c25 (g0_1 : Value) (rotors1_1 : Value) (p2_1 : Value) (a3_1 : Value) (b4_1 : Value) (n5_1 : Value) (h : Heap) (K : Value -> Heap -> Prop) (H : t25 Try.prog g0_1 rotors1_1 p2_1 a3_1 b4_1 n5_1 h K) : callM Try.prog 25 #[g0_1, rotors1_1, p2_1, a3_1, b4_1, n5_1] h K :=
  callM_of_wpA mixed (fn := Try.f25) Try.func25 (c := bodyOf Try.f25) rfl (of_decide_eq_true (by kernel_rfl)) (anOf []) 24 30 (by kernel_rfl) rfl [.tmp 12, .tmp 13] (by kernel_rfl) (args := [g0_1, rotors1_1, p2_1, a3_1, b4_1, n5_1]) (by rw [e25]; exact H)
def t26 (P : Program) (g0_1 : Value) (rotors1_1 : Value) (p2_1 : Value) (a3_1 : Value) (b4_1 : Value) (n5_1 : Value) (h : Heap) (K : Value -> Heap -> Prop) : Prop :=
 eop P (Instr.box 26 g0_1) h fun g6_1 h1 =>
 eop P (Instr.alloc 36 true (.tuple #[])) h1 fun s12 h2 =>
 rop P (Instr.loadAt 26 g6_1) h2 fun s21 =>
 callM P 79 #[s21, rotors1_1, p2_1, a3_1, b4_1, n5_1] h2 fun s27 h3 =>
 pop P (Instr.extract s27 0) fun s28 =>
 pop P (Instr.extract s27 1) fun s29 =>
 pop P (Instr.extract s27 2) fun s30 =>
 pop P (Instr.extract s27 3) fun s31 =>
 pop P (Op.unary .not s31) fun s33 =>
 condM s33
 (pop P (Instr.build 36 #[]) fun s34 =>
 uop P (Instr.storeAt 36 s12 s34) h3 fun q1 h4 =>
 rop P (Instr.loadAt 36 s12) h4 fun r_1 =>
 K (.tuple #[r_1, (Value.bool false)]) h4)
 (rop P (Instr.loadAt 26 g6_1) h3 fun s36 =>
 callM P 59 #[s36, a3_1, b4_1] h3 fun s39 h5 =>
 pop P (Instr.extract s39 0) fun s40 =>
 pop P (Instr.extract s39 1) fun s41 =>
 pop P (Instr.indexAt 37 s40 p2_1) fun s49 =>
 rop P (Instr.loadAt 3 s49) h5 fun s50 =>
 pop P (binA .mul 3 n5_1 s50) fun s51 =>
 callM P 80 #[s28] h5 fun s43 h6 =>
 (∀ w : World, w.heap = h6 -> (Instr.loadAt 3 s49).run P w = .ok s50 w) /\
 pop P (binA .mul 3 s43 s41) fun s45 =>
 pop P (binA .sub 3 s45 s51) fun s52 =>
 callM P 84 #[s52] h6 fun s53 h7 =>
 (∀ w : World, w.heap = h7 -> (Instr.loadAt 3 s49).run P w = .ok s50 w) /\
 callM P 84 #[s41] h7 fun s55 h8 =>
 (∀ w : World, w.heap = h8 -> (Instr.loadAt 3 s49).run P w = .ok s50 w) /\
 callM P 60 #[s53, s55] h8 fun s56 h9 =>
 (∀ w : World, w.heap = h9 -> (Instr.loadAt 3 s49).run P w = .ok s50 w) /\
 uop P (Instr.storeAt 36 s12 s56) h9 fun q2 h10 =>
 rop P (Instr.loadAt 36 s12) h10 fun r_2 =>
 K (.tuple #[r_2, (Value.bool true)]) h10)
theorem e26 (g0_1 : Value) (rotors1_1 : Value) (p2_1 : Value) (a3_1 : Value) (b4_1 : Value) (n5_1 : Value) (h : Heap) (K : Value -> Heap -> Prop) : wpA Try.prog 57 (anOf []) (bodyOf Try.f26) 1 (fun A h => resA Try.prog A h K [.cell 12 36, .tmp 13]) (fun _ _ _ => False) (fun A h => resA Try.prog A h K [.cell 12 36, .tmp 13]) (aargs [g0_1, rotors1_1, p2_1, a3_1, b4_1, n5_1] 0) h = t26 Try.prog g0_1 rotors1_1 p2_1 a3_1 b4_1 n5_1 h K := by kernel_rfl
theorem c26 (g0_1 : Value) (rotors1_1 : Value) (p2_1 : Value) (a3_1 : Value) (b4_1 : Value) (n5_1 : Value) (h : Heap) (K : Value -> Heap -> Prop) (H : t26 Try.prog g0_1 rotors1_1 p2_1 a3_1 b4_1 n5_1 h K) : callM Try.prog 26 #[g0_1, rotors1_1, p2_1, a3_1, b4_1, n5_1] h K :=
  callM_of_wpA mixed (fn := Try.f26) Try.func26 (c := bodyOf Try.f26) rfl (of_decide_eq_true (by kernel_rfl)) (anOf []) 51 57 (by kernel_rfl) rfl [.cell 12 36, .tmp 13] (by kernel_rfl) (args := [g0_1, rotors1_1, p2_1, a3_1, b4_1, n5_1]) (by rw [e26]; exact H)
def t27 (P : Program) (g0_1 : Value) (rotors1_1 : Value) (p2_1 : Value) (a3_1 : Value) (b4_1 : Value) (n5_1 : Value) (h : Heap) (K : Value -> Heap -> Prop) : Prop :=
 eop P (Instr.box 26 g0_1) h fun g6_1 h1 =>
 eop P (Instr.alloc 36 true (.tuple #[])) h1 fun s12 h2 =>
 rop P (Instr.loadAt 26 g6_1) h2 fun s16 =>
 callM P 81 #[s16, rotors1_1, p2_1, a3_1, b4_1, n5_1] h2 fun s22 h3 =>
 pop P (Op.unary .not s22) fun s23 =>
 condM s23
 (pop P (Instr.build 36 #[]) fun s24 =>
 uop P (Instr.storeAt 36 s12 s24) h3 fun q1 h4 =>
 rop P (Instr.loadAt 36 s12) h4 fun r_1 =>
 K (.tuple #[r_1, (Value.bool false)]) h4)
 (rop P (Instr.loadAt 26 g6_1) h3 fun s25 =>
 callM P 62 #[s25, a3_1, b4_1] h3 fun s28 h5 =>
 pop P (Instr.indexAt 29 s28 p2_1) fun s30 =>
 rop P (Instr.loadAt 36 s30) h5 fun s31 =>
 eop P (Instr.alloc 36 true (.tuple #[])) h5 fun chance14_1 h6 =>
 uop P (Instr.storeAt 36 chance14_1 s31) h6 fun q2 h7 =>
 rop P (Instr.loadAt 26 g6_1) h7 fun s32 =>
 callM P 83 #[s32, rotors1_1, p2_1, a3_1, b4_1, n5_1] h7 fun s38 h8 =>
 pop P (Instr.field 91 s38 0) fun s39 =>
 callM P 82 #[s39] h8 fun s40 h9 =>
 pop P (Instr.fieldAt 36 chance14_1 1) fun s42 =>
 rop P (Instr.loadAt 3 s42) h9 fun s43 =>
 pop P (binA .mul 3 s40 s43) fun s44 =>
 pop P (Instr.fieldAt 36 chance14_1 0) fun s46 =>
 rop P (Instr.loadAt 3 s46) h9 fun s47 =>
 pop P (binA .mul 3 n5_1 s47) fun s48 =>
 pop P (binA .sub 3 s44 s48) fun s49 =>
 pop P (Instr.fieldAt 36 chance14_1 1) fun s51 =>
 rop P (Instr.loadAt 3 s51) h9 fun s52 =>
 callM P 85 #[s49] h9 fun s50 h10 =>
 (∀ w : World, w.heap = h10 -> (Instr.loadAt 3 s51).run P w = .ok s52 w) /\
 (∀ w : World, w.heap = h10 -> (Instr.loadAt 3 s46).run P w = .ok s47 w) /\
 (∀ w : World, w.heap = h10 -> (Instr.loadAt 3 s42).run P w = .ok s43 w) /\
 callM P 74 #[s50, s52] h10 fun s53 h11 =>
 (∀ w : World, w.heap = h11 -> (Instr.loadAt 3 s46).run P w = .ok s47 w) /\
 (∀ w : World, w.heap = h11 -> (Instr.loadAt 3 s42).run P w = .ok s43 w) /\
 uop P (Instr.storeAt 36 s12 s53) h11 fun q3 h12 =>
 rop P (Instr.loadAt 36 s12) h12 fun r_2 =>
 K (.tuple #[r_2, (Value.bool true)]) h12)
theorem e27 (g0_1 : Value) (rotors1_1 : Value) (p2_1 : Value) (a3_1 : Value) (b4_1 : Value) (n5_1 : Value) (h : Heap) (K : Value -> Heap -> Prop) : wpA Try.prog 54 (anOf []) (bodyOf Try.f27) 1 (fun A h => resA Try.prog A h K [.cell 12 36, .tmp 13]) (fun _ _ _ => False) (fun A h => resA Try.prog A h K [.cell 12 36, .tmp 13]) (aargs [g0_1, rotors1_1, p2_1, a3_1, b4_1, n5_1] 0) h = t27 Try.prog g0_1 rotors1_1 p2_1 a3_1 b4_1 n5_1 h K := by kernel_rfl
theorem c27 (g0_1 : Value) (rotors1_1 : Value) (p2_1 : Value) (a3_1 : Value) (b4_1 : Value) (n5_1 : Value) (h : Heap) (K : Value -> Heap -> Prop) (H : t27 Try.prog g0_1 rotors1_1 p2_1 a3_1 b4_1 n5_1 h K) : callM Try.prog 27 #[g0_1, rotors1_1, p2_1, a3_1, b4_1, n5_1] h K :=
  callM_of_wpA mixed (fn := Try.f27) Try.func27 (c := bodyOf Try.f27) rfl (of_decide_eq_true (by kernel_rfl)) (anOf []) 48 54 (by kernel_rfl) rfl [.cell 12 36, .tmp 13] (by kernel_rfl) (args := [g0_1, rotors1_1, p2_1, a3_1, b4_1, n5_1]) (by rw [e27]; exact H)
def t28 (P : Program) (g0_1 : Value) (rotors1_1 : Value) (p2_1 : Value) (a3_1 : Value) (b4_1 : Value) (n5_1 : Value) (h : Heap) (K : Value -> Heap -> Prop) : Prop :=
 eop P (Instr.box 26 g0_1) h fun g6_1 h1 =>
 rop P (Instr.loadAt 26 g6_1) h1 fun s19 =>
 callM P 79 #[s19, rotors1_1, p2_1, a3_1, b4_1, n5_1] h1 fun s25 h2 =>
 pop P (Instr.extract s25 0) fun s26 =>
 pop P (Instr.extract s25 1) fun s27 =>
 pop P (Instr.extract s25 2) fun s28 =>
 pop P (Instr.extract s25 3) fun s29 =>
 K (.tuple #[s28, s29]) h2
theorem e28 (g0_1 : Value) (rotors1_1 : Value) (p2_1 : Value) (a3_1 : Value) (b4_1 : Value) (n5_1 : Value) (h : Heap) (K : Value -> Heap -> Prop) : wpA Try.prog 32 (anOf []) (bodyOf Try.f28) 1 (fun A h => resA Try.prog A h K [.tmp 12, .tmp 13]) (fun _ _ _ => False) (fun A h => resA Try.prog A h K [.tmp 12, .tmp 13]) (aargs [g0_1, rotors1_1, p2_1, a3_1, b4_1, n5_1] 0) h = t28 Try.prog g0_1 rotors1_1 p2_1 a3_1 b4_1 n5_1 h K := by kernel_rfl
theorem c28 (g0_1 : Value) (rotors1_1 : Value) (p2_1 : Value) (a3_1 : Value) (b4_1 : Value) (n5_1 : Value) (h : Heap) (K : Value -> Heap -> Prop) (H : t28 Try.prog g0_1 rotors1_1 p2_1 a3_1 b4_1 n5_1 h K) : callM Try.prog 28 #[g0_1, rotors1_1, p2_1, a3_1, b4_1, n5_1] h K :=
  callM_of_wpA mixed (fn := Try.f28) Try.func28 (c := bodyOf Try.f28) rfl (of_decide_eq_true (by kernel_rfl)) (anOf []) 26 32 (by kernel_rfl) rfl [.tmp 12, .tmp 13] (by kernel_rfl) (args := [g0_1, rotors1_1, p2_1, a3_1, b4_1, n5_1]) (by rw [e28]; exact H)
def t29 (P : Program) (g0_1 : Value) (rotors1_1 : Value) (p2_1 : Value) (a3_1 : Value) (b4_1 : Value) (n5_1 : Value) (h : Heap) (K : Value -> Heap -> Prop) : Prop :=
 eop P (Instr.box 26 g0_1) h fun g6_1 h1 =>
 rop P (Instr.loadAt 26 g6_1) h1 fun s14 =>
 callM P 81 #[s14, rotors1_1, p2_1, a3_1, b4_1, n5_1] h1 fun s20 h2 =>
 pop P (Op.unary .not s20) fun s21 =>
 condM s21
 (K (.tuple #[(.int .i64 0), (Value.bool false)]) h2)
 (rop P (Instr.loadAt 26 g6_1) h2 fun s22 =>
 callM P 83 #[s22, rotors1_1, p2_1, a3_1, b4_1, n5_1] h2 fun s28 h3 =>
 pop P (Instr.field 91 s28 2) fun s29 =>
 K (.tuple #[s29, (Value.bool true)]) h3)
theorem e29 (g0_1 : Value) (rotors1_1 : Value) (p2_1 : Value) (a3_1 : Value) (b4_1 : Value) (n5_1 : Value) (h : Heap) (K : Value -> Heap -> Prop) : wpA Try.prog 30 (anOf []) (bodyOf Try.f29) 1 (fun A h => resA Try.prog A h K [.tmp 12, .tmp 13]) (fun _ _ _ => False) (fun A h => resA Try.prog A h K [.tmp 12, .tmp 13]) (aargs [g0_1, rotors1_1, p2_1, a3_1, b4_1, n5_1] 0) h = t29 Try.prog g0_1 rotors1_1 p2_1 a3_1 b4_1 n5_1 h K := by kernel_rfl
theorem c29 (g0_1 : Value) (rotors1_1 : Value) (p2_1 : Value) (a3_1 : Value) (b4_1 : Value) (n5_1 : Value) (h : Heap) (K : Value -> Heap -> Prop) (H : t29 Try.prog g0_1 rotors1_1 p2_1 a3_1 b4_1 n5_1 h K) : callM Try.prog 29 #[g0_1, rotors1_1, p2_1, a3_1, b4_1, n5_1] h K :=
  callM_of_wpA mixed (fn := Try.f29) Try.func29 (c := bodyOf Try.f29) rfl (of_decide_eq_true (by kernel_rfl)) (anOf []) 24 30 (by kernel_rfl) rfl [.tmp 12, .tmp 13] (by kernel_rfl) (args := [g0_1, rotors1_1, p2_1, a3_1, b4_1, n5_1]) (by rw [e29]; exact H)
def t30 (P : Program) (g0_1 : Value) (rotors1_1 : Value) (p2_1 : Value) (a3_1 : Value) (b4_1 : Value) (n5_1 : Value) (h : Heap) (K : Value -> Heap -> Prop) : Prop :=
 eop P (Instr.box 26 g0_1) h fun g6_1 h1 =>
 rop P (Instr.loadAt 26 g6_1) h1 fun s19 =>
 callM P 79 #[s19, rotors1_1, p2_1, a3_1, b4_1, n5_1] h1 fun s25 h2 =>
 pop P (Instr.extract s25 0) fun s26 =>
 pop P (Instr.extract s25 1) fun s27 =>
 pop P (Instr.extract s25 2) fun s28 =>
 pop P (Instr.extract s25 3) fun s29 =>
 K (.tuple #[s27, s29]) h2
theorem e30 (g0_1 : Value) (rotors1_1 : Value) (p2_1 : Value) (a3_1 : Value) (b4_1 : Value) (n5_1 : Value) (h : Heap) (K : Value -> Heap -> Prop) : wpA Try.prog 32 (anOf []) (bodyOf Try.f30) 1 (fun A h => resA Try.prog A h K [.tmp 12, .tmp 13]) (fun _ _ _ => False) (fun A h => resA Try.prog A h K [.tmp 12, .tmp 13]) (aargs [g0_1, rotors1_1, p2_1, a3_1, b4_1, n5_1] 0) h = t30 Try.prog g0_1 rotors1_1 p2_1 a3_1 b4_1 n5_1 h K := by kernel_rfl
theorem c30 (g0_1 : Value) (rotors1_1 : Value) (p2_1 : Value) (a3_1 : Value) (b4_1 : Value) (n5_1 : Value) (h : Heap) (K : Value -> Heap -> Prop) (H : t30 Try.prog g0_1 rotors1_1 p2_1 a3_1 b4_1 n5_1 h K) : callM Try.prog 30 #[g0_1, rotors1_1, p2_1, a3_1, b4_1, n5_1] h K :=
  callM_of_wpA mixed (fn := Try.f30) Try.func30 (c := bodyOf Try.f30) rfl (of_decide_eq_true (by kernel_rfl)) (anOf []) 26 32 (by kernel_rfl) rfl [.tmp 12, .tmp 13] (by kernel_rfl) (args := [g0_1, rotors1_1, p2_1, a3_1, b4_1, n5_1]) (by rw [e30]; exact H)
def t31 (P : Program) (g0_1 : Value) (rotors1_1 : Value) (p2_1 : Value) (a3_1 : Value) (b4_1 : Value) (n5_1 : Value) (h : Heap) (K : Value -> Heap -> Prop) : Prop :=
 eop P (Instr.box 26 g0_1) h fun g6_1 h1 =>
 rop P (Instr.loadAt 26 g6_1) h1 fun s14 =>
 callM P 81 #[s14, rotors1_1, p2_1, a3_1, b4_1, n5_1] h1 fun s20 h2 =>
 pop P (Op.unary .not s20) fun s21 =>
 condM s21
 (K (.tuple #[(Value.slice none 0 0), (Value.bool false)]) h2)
 (rop P (Instr.loadAt 26 g6_1) h2 fun s22 =>
 callM P 83 #[s22, rotors1_1, p2_1, a3_1, b4_1, n5_1] h2 fun s28 h3 =>
 pop P (Instr.field 91 s28 1) fun s29 =>
 K (.tuple #[s29, (Value.bool true)]) h3)
theorem e31 (g0_1 : Value) (rotors1_1 : Value) (p2_1 : Value) (a3_1 : Value) (b4_1 : Value) (n5_1 : Value) (h : Heap) (K : Value -> Heap -> Prop) : wpA Try.prog 30 (anOf []) (bodyOf Try.f31) 1 (fun A h => resA Try.prog A h K [.tmp 12, .tmp 13]) (fun _ _ _ => False) (fun A h => resA Try.prog A h K [.tmp 12, .tmp 13]) (aargs [g0_1, rotors1_1, p2_1, a3_1, b4_1, n5_1] 0) h = t31 Try.prog g0_1 rotors1_1 p2_1 a3_1 b4_1 n5_1 h K := by kernel_rfl
theorem c31 (g0_1 : Value) (rotors1_1 : Value) (p2_1 : Value) (a3_1 : Value) (b4_1 : Value) (n5_1 : Value) (h : Heap) (K : Value -> Heap -> Prop) (H : t31 Try.prog g0_1 rotors1_1 p2_1 a3_1 b4_1 n5_1 h K) : callM Try.prog 31 #[g0_1, rotors1_1, p2_1, a3_1, b4_1, n5_1] h K :=
  callM_of_wpA mixed (fn := Try.f31) Try.func31 (c := bodyOf Try.f31) rfl (of_decide_eq_true (by kernel_rfl)) (anOf []) 24 30 (by kernel_rfl) rfl [.tmp 12, .tmp 13] (by kernel_rfl) (args := [g0_1, rotors1_1, p2_1, a3_1, b4_1, n5_1]) (by rw [e31]; exact H)
def t32 (P : Program) (a0_1 : Value) (b1_1 : Value) (h : Heap) (K : Value -> Heap -> Prop) : Prop :=
 pop P (lenS 37 3 a0_1) fun s7 =>
 pop P (lenS 37 3 b1_1) fun s9 =>
 pop P (binE .neq 3 (.tmp 7) (.tmp 9) s7 s9) fun s10 =>
 condM s10
 (K (Value.bool false) h)
 (pop P (lenS 37 3 a0_1) fun s12 =>
 ∃ (I1 : List Value -> Heap -> Prop) (μ_1 : List Value -> Heap -> Nat), I1 [(.int .i64 0)] h /\
 ∀ (junk1 : Nat -> Value) (s13 : Value) (h1 : Heap), I1 [s13] h1 ->
 pop P (binA .lss 3 s13 s12) fun s14 =>
 condM s14
 (pop P (Instr.indexAt 37 a0_1 s13) fun s18 =>
 rop P (Instr.loadAt 3 s18) h1 fun s19 =>
 pop P (Instr.indexAt 37 b1_1 s13) fun s22 =>
 rop P (Instr.loadAt 3 s22) h1 fun s23 =>
 pop P (binE .neq 3 (.tmp 19) (.tmp 23) s19 s23) fun s24 =>
 condM s24
 (K (Value.bool false) h1)
 (pop P (binA .add 3 s13 (.int .i64 1)) fun s25 =>
 I1 [s25] h1 /\ μ_1 [s25] h1 < μ_1 [s13] h1))
 (K (Value.bool true) h1))
theorem e32 (a0_1 : Value) (b1_1 : Value) (h : Heap) (K : Value -> Heap -> Prop) : wpA Try.prog 26 (anOf [(58, [13])]) (bodyOf Try.f32) 1 (fun A h => resA Try.prog A h K [.tmp 4]) (fun _ _ _ => False) (fun A h => resA Try.prog A h K [.tmp 4]) (aargs [a0_1, b1_1] 0) h = t32 Try.prog a0_1 b1_1 h K := by kernel_rfl
theorem c32 (a0_1 : Value) (b1_1 : Value) (h : Heap) (K : Value -> Heap -> Prop) (H : t32 Try.prog a0_1 b1_1 h K) : callM Try.prog 32 #[a0_1, b1_1] h K :=
  callM_of_wpA mixed (fn := Try.f32) Try.func32 (c := bodyOf Try.f32) rfl (of_decide_eq_true (by kernel_rfl)) (anOf [(58, [13])]) 24 26 (by kernel_rfl) rfl [.tmp 4] (by kernel_rfl) (args := [a0_1, b1_1]) (by rw [e32]; exact H)
def t33 (P : Program) (g0_1 : Value) (a1_1 : Value) (b2_1 : Value) (h : Heap) (K : Value -> Heap -> Prop) : Prop :=
 eop P (Instr.box 26 g0_1) h fun g3_1 h1 =>
 eop P (Instr.alloc 36 true (.tuple #[])) h1 fun s6 h2 =>
 rop P (Instr.loadAt 26 g3_1) h2 fun s15 =>
 callM P 58 #[s15, a1_1, b2_1] h2 fun s18 h3 =>
 pop P (Op.unary .not s18) fun s19 =>
 condM s19
 (pop P (Instr.build 36 #[]) fun s20 =>
 uop P (Instr.storeAt 36 s6 s20) h3 fun q1 h4 =>
 rop P (Instr.loadAt 36 s6) h4 fun r_1 =>
 K (.tuple #[r_1, (Value.bool false)]) h4)
 (rop P (Instr.loadAt 26 g3_1) h3 fun s22 =>
 callM P 59 #[s22, a1_1, b2_1] h3 fun s25 h5 =>
 pop P (Instr.extract s25 0) fun s26 =>
 pop P (Instr.extract s25 1) fun s27 =>
 callM P 84 #[s27] h5 fun s29 h6 =>
 pop P (Instr.fieldAt 26 g3_1 0) fun s30 =>
 rop P (Instr.loadAt 24 s30) h6 fun s31 =>
 pop P (lenS 24 3 s31) fun s32 =>
 ∃ (I1 : List Value -> Heap -> Prop) (μ_1 : List Value -> Heap -> Nat), I1 [s29, (.int .i64 0)] h6 /\
 ∀ (junk1 : Nat -> Value) (num10_1 : Value) (s33 : Value) (h7 : Heap), I1 [num10_1, s33] h7 ->
 pop P (binA .lss 3 s33 s32) fun s34 =>
 condM s34
 (pop P (Instr.indexAt 24 s31 s33) fun s36 =>
 rop P (Instr.loadAt 37 s36) h7 fun s37 =>
 pop P (lenS 37 3 s37) fun s39 =>
 ∃ (I2 : List Value -> Heap -> Prop) (μ_2 : List Value -> Heap -> Nat), I2 [num10_1, (.int .i64 0)] h7 /\
 ∀ (junk2 : Nat -> Value) (num10_2 : Value) (s40 : Value) (h8 : Heap), I2 [num10_2, s40] h8 ->
 pop P (binA .lss 3 s40 s39) fun s41 =>
 condM s41
 (pop P (Instr.indexAt 37 s37 s40) fun s42 =>
 rop P (Instr.loadAt 3 s42) h8 fun s43 =>
 pop P (binE .neq 3 (.tmp 44) (.tmp 45) s33 a1_1) fun s46 =>
 guardM (asG s46 true) true (fun k_1 => k_1 s33 h8) h8 fun s48 h9 =>
 guardM (asG s46 true) true (fun k_2 => k_2 b2_1 h9) h9 fun s49 h10 =>
 guardM (asG s46 true) true (fun k_3 => pop P (binE .neq 3 (.tmp 48) (.tmp 49) s48 s49) fun s50 =>
 k_3 s50 h10) h10 fun s50b h11 =>
 pop P (pickS s46 s50b (Value.bool false)) fun s51 =>
 condM s51
 (pop P (Instr.indexAt 37 s26 s33) fun s55 =>
 rop P (Instr.loadAt 3 s55) h11 fun s56 =>
 pop P (Instr.indexAt 37 s26 s43) fun s59 =>
 rop P (Instr.loadAt 3 s59) h11 fun s60 =>
 pop P (binA .sub 3 s56 s60) fun s61 =>
 callM P 84 #[s61] h11 fun s62 h12 =>
 (∀ w : World, w.heap = h12 -> (Instr.loadAt 3 s59).run P w = .ok s60 w) /\
 (∀ w : World, w.heap = h12 -> (Instr.loadAt 3 s55).run P w = .ok s56 w) /\
 pop P (binA .add 3 num10_2 s62) fun s63 =>
 pop P (binA .add 3 s40 (.int .i64 1)) fun s64 =>
 I2 [s63, s64] h12 /\ μ_2 [s63, s64] h12 < μ_2 [num10_2, s40] h8)
 (pop P (binA .add 3 s40 (.int .i64 1)) fun s64b =>
 I2 [num10_2, s64b] h11 /\ μ_2 [num10_2, s64b] h11 < μ_2 [num10_2, s40] h8))
 (pop P (binA .add 3 s33 (.int .i64 1)) fun s65 =>
 I1 [num10_2, s65] h8 /\ μ_1 [num10_2, s65] h8 < μ_1 [num10_1, s33] h7))
 (callM P 84 #[s27] h7 fun s68 h13 =>
 callM P 60 #[num10_1, s68] h13 fun s69 h14 =>
 uop P (Instr.storeAt 36 s6 s69) h14 fun q2 h15 =>
 rop P (Instr.loadAt 36 s6) h15 fun r_2 =>
 K (.tuple #[r_2, (Value.bool true)]) h15))
theorem e33 (g0_1 : Value) (a1_1 : Value) (b2_1 : Value) (h : Heap) (K : Value -> Heap -> Prop) : wpA Try.prog 70 (anOf [(250, [10, 33]), (64102, [10, 40])]) (bodyOf Try.f33) 1 (fun A h => resA Try.prog A h K [.cell 6 36, .tmp 7]) (fun _ _ _ => False) (fun A h => resA Try.prog A h K [.cell 6 36, .tmp 7]) (aargs [g0_1, a1_1, b2_1] 0) h = t33 Try.prog g0_1 a1_1 b2_1 h K := by kernel_rfl
theorem c33 (g0_1 : Value) (a1_1 : Value) (b2_1 : Value) (h : Heap) (K : Value -> Heap -> Prop) (H : t33 Try.prog g0_1 a1_1 b2_1 h K) : callM Try.prog 33 #[g0_1, a1_1, b2_1] h K :=
  callM_of_wpA mixed (fn := Try.f33) Try.func33 (c := bodyOf Try.f33) rfl (of_decide_eq_true (by kernel_rfl)) (anOf [(250, [10, 33]), (64102, [10, 40])]) 67 70 (by kernel_rfl) rfl [.cell 6 36, .tmp 7] (by kernel_rfl) (args := [g0_1, a1_1, b2_1]) (by rw [e33]; exact H)
def t34 (P : Program) (a0_1 : Value) (h : Heap) (K : Value -> Heap -> Prop) : Prop :=
 pop P (lenS 37 3 a0_1) fun s7 =>
 ∃ (I1 : List Value -> Heap -> Prop) (μ_1 : List Value -> Heap -> Nat), I1 [(.int .i64 0), (.int .i64 0)] h /\
 ∀ (junk1 : Nat -> Value) (n3_1 : Value) (s8 : Value) (h1 : Heap), I1 [n3_1, s8] h1 ->
 pop P (binA .lss 3 s8 s7) fun s9 =>
 condM s9
 (pop P (Instr.indexAt 37 a0_1 s8) fun s10 =>
 rop P (Instr.loadAt 3 s10) h1 fun s11 =>
 pop P (binA .add 3 n3_1 s11) fun s14 =>
 pop P (binA .add 3 s8 (.int .i64 1)) fun s15 =>
 I1 [s14, s15] h1 /\ μ_1 [s14, s15] h1 < μ_1 [n3_1, s8] h1)
 (K n3_1 h1)
theorem e34 (a0_1 : Value) (h : Heap) (K : Value -> Heap -> Prop) : wpA Try.prog 17 (anOf [(58, [3, 8])]) (bodyOf Try.f34) 1 (fun A h => resA Try.prog A h K [.tmp 2]) (fun _ _ _ => False) (fun A h => resA Try.prog A h K [.tmp 2]) (aargs [a0_1] 0) h = t34 Try.prog a0_1 h K := by kernel_rfl
theorem c34 (a0_1 : Value) (h : Heap) (K : Value -> Heap -> Prop) (H : t34 Try.prog a0_1 h K) : callM Try.prog 34 #[a0_1] h K :=
  callM_of_wpA mixed (fn := Try.f34) Try.func34 (c := bodyOf Try.f34) rfl (of_decide_eq_true (by kernel_rfl)) (anOf [(58, [3, 8])]) 16 17 (by kernel_rfl) rfl [.tmp 2] (by kernel_rfl) (args := [a0_1]) (by rw [e34]; exact H)
def t35 (P : Program) (code0_1 : Value) (h : Heap) (K : Value -> Heap -> Prop) : Prop :=
 eop P (Instr.alloc 26 true (.tuple #[])) h fun s2 h1 =>
 callM P 7 #[code0_1] h1 fun s6 h2 =>
 pop P (Instr.extract s6 0) fun s7 =>
 pop P (Instr.extract s6 1) fun s8 =>
 pop P (Instr.extract s6 2) fun s9 =>
 uop P (Instr.storeAt 26 s2 s7) h2 fun q1 h3 =>
 rop P (Instr.loadAt 26 s2) h3 fun r_1 =>
 K (.tuple #[r_1, s8, s9]) h3
theorem e35 (code0_1 : Value) (h : Heap) (K : Value -> Heap -> Prop) : wpA Try.prog 10 (anOf []) (bodyOf Try.f35) 1 (fun A h => resA Try.prog A h K [.cell 2 26, .tmp 3, .tmp 4]) (fun _ _ _ => False) (fun A h => resA Try.prog A h K [.cell 2 26, .tmp 3, .tmp 4]) (aargs [code0_1] 0) h = t35 Try.prog code0_1 h K := by kernel_rfl
theorem c35 (code0_1 : Value) (h : Heap) (K : Value -> Heap -> Prop) (H : t35 Try.prog code0_1 h K) : callM Try.prog 35 #[code0_1] h K :=
  callM_of_wpA mixed (fn := Try.f35) Try.func35 (c := bodyOf Try.f35) rfl (of_decide_eq_true (by kernel_rfl)) (anOf []) 9 10 (by kernel_rfl) rfl [.cell 2 26, .tmp 3, .tmp 4] (by kernel_rfl) (args := [code0_1]) (by rw [e35]; exact H)
def t36 (P : Program) (g0_1 : Value) (a1_1 : Value) (b2_1 : Value) (h : Heap) (K : Value -> Heap -> Prop) : Prop :=
 eop P (Instr.box 26 g0_1) h fun g3_1 h1 =>
 eop P (Instr.alloc 36 true (.tuple #[])) h1 fun s6 h2 =>
 rop P (Instr.loadAt 26 g3_1) h2 fun s8 =>
 callM P 61 #[s8, a1_1, b2_1] h2 fun s11 h3 =>
 pop P (Op.unary .not s11) fun s12 =>
 condM s12
 (pop P (Instr.build 36 #[]) fun s13 =>
 uop P (Instr.storeAt 36 s6 s13) h3 fun q1 h4 =>
 rop P (Instr.loadAt 36 s6) h4 fun r_1 =>
 K (.tuple #[r_1, (Value.bool false)]) h4)
 (rop P (Instr.loadAt 26 g3_1) h3 fun s14 =>
 callM P 86 #[s14, a1_1, b2_1] h3 fun s17 h5 =>
 uop P (Instr.storeAt 36 s6 s17) h5 fun q2 h6 =>
 rop P (Instr.loadAt 36 s6) h6 fun r_2 =>
 K (.tuple #[r_2, (Value.bool true)]) h6)
theorem e36 (g0_1 : Value) (a1_1 : Value) (b2_1 : Value) (h : Heap) (K : Value -> Heap -> Prop) : wpA Try.prog 18 (anOf []) (bodyOf Try.f36) 1 (fun A h => resA Try.prog A h K [.cell 6 36, .tmp 7]) (fun _ _ _ => False) (fun A h => resA Try.prog A h K [.cell 6 36, .tmp 7]) (aargs [g0_1, a1_1, b2_1] 0) h = t36 Try.prog g0_1 a1_1 b2_1 h K := by kernel_rfl
theorem c36 (g0_1 : Value) (a1_1 : Value) (b2_1 : Value) (h : Heap) (K : Value -> Heap -> Prop) (H : t36 Try.prog g0_1 a1_1 b2_1 h K) : callM Try.prog 36 #[g0_1, a1_1, b2_1] h K :=
  callM_of_wpA mixed (fn := Try.f36) Try.func36 (c := bodyOf Try.f36) rfl (of_decide_eq_true (by kernel_rfl)) (anOf []) 15 18 (by kernel_rfl) rfl [.cell 6 36, .tmp 7] (by kernel_rfl) (args := [g0_1, a1_1, b2_1]) (by rw [e36]; exact H)
def t57 (P : Program) (c0_1 : Value) (h : Heap) (K : Value -> Heap -> Prop) : Prop :=
 eop P (Instr.alloc 26 true (.tuple #[])) h fun s2 h1 =>
 callM P 68 #[c0_1] h1 fun s10 h2 =>
 eop P (Instr.alloc 26 true (.tuple #[])) h2 fun g5_1 h3 =>
 uop P (Instr.storeAt 26 g5_1 s10) h3 fun q1 h4 =>
 ∃ J1 : List Value -> Heap -> Prop, (callM P 106 #[c0_1, (.int .i64 2)] h4 fun s12 h5 =>
 condM s12
 (callM P 109 #[c0_1] h5 fun s14 h6 =>
 uop P (Instr.storeAt 26 g5_1 s14) h6 fun q2 h7 =>
 J1 [] h7)
 (J1 [] h5)) /\
 ∀ (junk1 : Nat -> Value) (h8 : Heap), J1 [] h8 ->
 rop P (Instr.loadAt 26 g5_1) h8 fun s16 =>
 rop P (Instr.loadAt 26 g5_1) h8 fun s19 =>
 callM P 69 #[c0_1, s16] h8 fun s17 h9 =>
 (∀ w : World, w.heap = h9 -> (Instr.loadAt 26 g5_1).run P w = .ok s19 w) /\
 callM P 69 #[c0_1, s19] h9 fun s20 h10 =>
 ∃ J2 : List Value -> Heap -> Prop, (pop P (Instr.fieldAt 26 g5_1 0) fun s21 =>
 rop P (Instr.loadAt 24 s21) h10 fun s22 =>
 pop P (lenS 24 3 s22) fun s23 =>
 pop P (binA .gtr 3 s23 (.int .i64 1)) fun s25 =>
 guardM (asG s25 true) true (fun k_1 => k_1 s17 h10) h10 fun s27 h11 =>
 guardM (asG s25 true) true (fun k_2 => k_2 s20 h11) h11 fun s28 h12 =>
 guardM (asG s25 true) true (fun k_3 => pop P (binE .eql 3 (.tmp 27) (.tmp 28) s27 s28) fun s29 =>
 k_3 s29 h12) h12 fun s29b h13 =>
 pop P (pickS s25 s29b (Value.bool false)) fun s30 =>
 guardM (asG s30 true) true (fun k_4 => k_4 c0_1 h13) h13 fun s32 h14 =>
 guardM (asG s30 true) true (fun k_5 => callM P 106 #[s32, (.int .i64 8)] h14 fun s33 h15 =>
 k_5 s33 h15) h14 fun s33b h16 =>
 guardM (asG s30 true) true (fun k_6 => pop P (Op.unary .not s33b) fun s34 =>
 k_6 s34 h16) h16 fun s34b h17 =>
 pop P (pickS s30 s34b (Value.bool false)) fun s35 =>
 condM s35
 (pop P (binA .add 3 s17 (.int .i64 1)) fun s37 =>
 pop P (binA .rem 3 s37 s23) fun s39 =>
 J2 [s39] h17)
 (J2 [s20] h17)) /\
 ∀ (junk2 : Nat -> Value) (b7_1 : Value) (h18 : Heap), J2 [b7_1] h18 ->
 rop P (Instr.loadAt 26 g5_1) h18 fun s40 =>
 uop P (Instr.storeAt 26 s2 s40) h18 fun q3 h19 =>
 rop P (Instr.loadAt 26 s2) h19 fun r_1 =>
 K (.tuple #[r_1, s17, b7_1]) h19
theorem e57 (c0_1 : Value) (h : Heap) (K : Value -> Heap -> Prop) : wpA Try.prog 43 (anOf [(7, []), (31, [7])]) (bodyOf Try.f57) 1 (fun A h => resA Try.prog A h K [.cell 2 26, .tmp 3, .tmp 4]) (fun _ _ _ => False) (fun A h => resA Try.prog A h K [.cell 2 26, .tmp 3, .tmp 4]) (aargs [c0_1] 0) h = t57 Try.prog c0_1 h K := by kernel_rfl
theorem c57 (c0_1 : Value) (h : Heap) (K : Value -> Heap -> Prop) (H : t57 Try.prog c0_1 h K) : callM Try.prog 57 #[c0_1] h K :=
  callM_of_wpA mixed (fn := Try.f57) Try.func57 (c := bodyOf Try.f57) rfl (of_decide_eq_true (by kernel_rfl)) (anOf [(7, []), (31, [7])]) 42 43 (by kernel_rfl) rfl [.cell 2 26, .tmp 3, .tmp 4] (by kernel_rfl) (args := [c0_1]) (by rw [e57]; exact H)
def t58 (P : Program) (g0_1 : Value) (a1_1 : Value) (b2_1 : Value) (h : Heap) (K : Value -> Heap -> Prop) : Prop :=
 eop P (Instr.box 26 g0_1) h fun g3_1 h1 =>
 rop P (Instr.loadAt 26 g3_1) h1 fun s10 =>
 eop P (Instr.buildSlice 37 2 #[(0, a1_1), (1, b2_1)]) h1 fun s13 h2 =>
 callM P 63 #[s10, s13] h2 fun s14 h3 =>
 pop P (Op.unary .not s14) fun s15 =>
 guardM (asG s15 false) false (fun k_1 => k_1 a1_1 h3) h3 fun s17 h4 =>
 guardM (asG s15 false) false (fun k_2 => k_2 b2_1 h4) h4 fun s18 h5 =>
 guardM (asG s15 false) false (fun k_3 => pop P (binE .eql 3 (.tmp 17) (.tmp 18) s17 s18) fun s19 =>
 k_3 s19 h5) h5 fun s19b h6 =>
 pop P (pickS s15 (Value.bool true) s19b) fun s20 =>
 condM s20
 (K (Value.bool false) h6)
 (pop P (Instr.fieldAt 26 g3_1 0) fun s21 =>
 rop P (Instr.loadAt 24 s21) h6 fun s22 =>
 pop P (lenS 24 3 s22) fun s23 =>
 ∃ (I1 : List Value -> Heap -> Prop) (μ_1 : List Value -> Heap -> Nat), I1 [(.int .i64 0)] h6 /\
 ∀ (junk1 : Nat -> Value) (s24 : Value) (h7 : Heap), I1 [s24] h7 ->
 pop P (binA .lss 3 s24 s23) fun s25 =>
 condM s25
 (pop P (Instr.indexAt 24 s22 s24) fun s27 =>
 rop P (Instr.loadAt 37 s27) h7 fun s28 =>
 rop P (Instr.loadAt 26 g3_1) h7 fun s29 =>
 callM P 110 #[s29, s24] h7 fun s31 h8 =>
 pop P (Instr.indexAt 37 s31 a1_1) fun s34 =>
 rop P (Instr.loadAt 3 s34) h8 fun s35 =>
 pop P (binA .lss 3 s35 (.int .i64 0)) fun s36 =>
 guardM (asG s36 true) true (fun k_4 => k_4 s31 h8) h8 fun s38 h9 =>
 guardM (asG s36 true) true (fun k_5 => k_5 b2_1 h9) h9 fun s39 h10 =>
 guardM (asG s36 true) true (fun k_6 => pop P (Instr.indexAt 37 s38 s39) fun s40 =>
 k_6 s40 h10) h10 fun s40b h11 =>
 guardM (asG s36 true) true (fun k_7 => rop P (Instr.loadAt 3 s40b) h11 fun s41 =>
 k_7 s41 h11) h11 fun s41b h12 =>
 guardM (asG s36 true) true (fun k_8 => pop P (binA .lss 3 s41b (.int .i64 0)) fun s42 =>
 k_8 s42 h12) h12 fun s42b h13 =>
 pop P (pickS s36 s42b (Value.bool false)) fun s43 =>
 guardM (asG s43 false) false (fun k_9 => k_9 s24 h13) h13 fun s45 h14 =>
 guardM (asG s43 false) false (fun k_10 => k_10 a1_1 h14) h14 fun s46 h15 =>
 guardM (asG s43 false) false (fun k_11 => pop P (binE .neq 3 (.tmp 45) (.tmp 46) s45 s46) fun s47 =>
 k_11 s47 h15) h15 fun s47b h16 =>
 guardM (asG s43 false) false (fun k_12 => k_12 s47b h16) h16 fun s48 h17 =>
 guardM (asG s48 true) true (fun k_13 => k_13 s24 h17) h17 fun s49 h18 =>
 guardM (asG s48 true) true (fun k_14 => k_14 b2_1 h18) h18 fun s50 h19 =>
 guardM (asG s48 true) true (fun k_15 => pop P (binE .neq 3 (.tmp 49) (.tmp 50) s49 s50) fun s51 =>
 k_15 s51 h19) h19 fun s51b h20 =>
 guardM (asG s43 false) false (fun k_16 => pop P (pickS s48 s51b (Value.bool false)) fun s52 =>
 k_16 s52 h20) h20 fun s52b h21 =>
 guardM (asG s43 false) false (fun k_17 => k_17 s52b h21) h21 fun s53 h22 =>
 guardM (asG s53 true) true (fun k_18 => k_18 s28 h22) h22 fun s54 h23 =>
 guardM (asG s53 true) true (fun k_19 => pop P (lenS 37 3 s54) fun s55 =>
 k_19 s55 h23) h23 fun s55b h24 =>
 guardM (asG s53 true) true (fun k_20 => pop P (binE .eql 3 (.tmp 55) (.const (.int .i64 0)) s55b (.int .i64 0)) fun s56 =>
 k_20 s56 h24) h24 fun s56b h25 =>
 guardM (asG s43 false) false (fun k_21 => pop P (pickS s53 s56b (Value.bool false)) fun s57 =>
 k_21 s57 h25) h25 fun s57b h26 =>
 pop P (pickS s43 (Value.bool true) s57b) fun s58 =>
 condM s58
 (K (Value.bool false) h26)
 (pop P (binA .add 3 s24 (.int .i64 1)) fun s59 =>
 I1 [s59] h26 /\ μ_1 [s59] h26 < μ_1 [s24] h7))
 (K (Value.bool true) h7))
theorem e58 (g0_1 : Value) (a1_1 : Value) (b2_1 : Value) (h : Heap) (K : Value -> Heap -> Prop) : wpA Try.prog 60 (anOf [(58, [24])]) (bodyOf Try.f58) 1 (fun A h => resA Try.prog A h K [.tmp 6]) (fun _ _ _ => False) (fun A h => resA Try.prog A h K [.tmp 6]) (aargs [g0_1, a1_1, b2_1] 0) h = t58 Try.prog g0_1 a1_1 b2_1 h K := by kernel_rfl
theorem c58 (g0_1 : Value) (a1_1 : Value) (b2_1 : Value) (h : Heap) (K : Value -> Heap -> Prop) (H : t58 Try.prog g0_1 a1_1 b2_1 h K) : callM Try.prog 58 #[g0_1, a1_1, b2_1] h K :=
  callM_of_wpA mixed (fn := Try.f58) Try.func58 (c := bodyOf Try.f58) rfl (of_decide_eq_true (by kernel_rfl)) (anOf [(58, [24])]) 57 60 (by kernel_rfl) rfl [.tmp 6] (by kernel_rfl) (args := [g0_1, a1_1, b2_1]) (by rw [e58]; exact H)
def t59 (P : Program) (g0_1 : Value) (a1_1 : Value) (b2_1 : Value) (h : Heap) (K : Value -> Heap -> Prop) : Prop :=
 eop P (Instr.box 26 g0_1) h fun g3_1 h1 =>
 rop P (Instr.loadAt 26 g3_1) h1 fun s8 =>
 callM P 66 #[s8, a1_1, b2_1, (.func (.func 111) #[] #[]), (.int .i64 1), (.int .i64 0)] h1 fun s11 h2 =>
 pop P (Instr.extract s11 0) fun s12 =>
 pop P (Instr.extract s11 1) fun s13 =>
 K (.tuple #[s12, s13]) h2
theorem e59 (g0_1 : Value) (a1_1 : Value) (b2_1 : Value) (h : Heap) (K : Value -> Heap -> Prop) : wpA Try.prog 14 (anOf []) (bodyOf Try.f59) 1 (fun A h => resA Try.prog A h K [.tmp 6, .tmp 7]) (fun _ _ _ => False) (fun A h => resA Try.prog A h K [.tmp 6, .tmp 7]) (aargs [g0_1, a1_1, b2_1] 0) h = t59 Try.prog g0_1 a1_1 b2_1 h K := by kernel_rfl
theorem c59 (g0_1 : Value) (a1_1 : Value) (b2_1 : Value) (h : Heap) (K : Value -> Heap -> Prop) (H : t59 Try.prog g0_1 a1_1 b2_1 h K) : callM Try.prog 59 #[g0_1, a1_1, b2_1] h K :=
  callM_of_wpA mixed (fn := Try.f59) Try.func59 (c := bodyOf Try.f59) rfl (of_decide_eq_true (by kernel_rfl)) (anOf []) 11 14 (by kernel_rfl) rfl [.tmp 6, .tmp 7] (by kernel_rfl) (args := [g0_1, a1_1, b2_1]) (by rw [e59]; exact H)
def t60 (P : Program) (num0_1 : Value) (den1_1 : Value) (h : Heap) (K : Value -> Heap -> Prop) : Prop :=
 eop P (Instr.alloc 36 true (.tuple #[])) h fun s4 h1 =>
 callM P 112 #[num0_1, den1_1] h1 fun s8 h2 =>
 ∃ J1 : List Value -> Heap -> Prop, (pop P (binA .lss 3 den1_1 (.int .i64 0)) fun s10 =>
 condM s10
 (pop P (Op.unary .neg s8) fun s12 =>
 J1 [s12] h2)
 (J1 [s8] h2)) /\
 ∀ (junk1 : Nat -> Value) (g5_1 : Value) (h3 : Heap), J1 [g5_1] h3 ->
 pop P (binA .quo 3 num0_1 g5_1) fun s15 =>
 pop P (binA .quo 3 den1_1 g5_1) fun s18 =>
 pop P (Instr.build 36 #[(0, s15), (1, s18)]) fun s19 =>
 uop P (Instr.storeAt 36 s4 s19) h3 fun q1 h4 =>
 rop P (Instr.loadAt 36 s4) h4 fun r_1 =>
 K r_1 h4
theorem e60 (num0_1 : Value) (den1_1 : Value) (h : Heap) (K : Value -> Heap -> Prop) : wpA Try.prog 20 (anOf [(7, [5])]) (bodyOf Try.f60) 1 (fun A h => resA Try.prog A h K [.cell 4 36]) (fun _ _ _ => False) (fun A h => resA Try.prog A h K [.cell 4 36]) (aargs [num0_1, den1_1] 0) h = t60 Try.prog num0_1 den1_1 h K := by kernel_rfl
theorem c60 (num0_1 : Value) (den1_1 : Value) (h : Heap) (K : Value -> Heap -> Prop) (H : t60 Try.prog num0_1 den1_1 h K) : callM Try.prog 60 #[num0_1, den1_1] h K :=
  callM_of_wpA mixed (fn := Try.f60) Try.func60 (c := bodyOf Try.f60) rfl (of_decide_eq_true (by kernel_rfl)) (anOf [(7, [5])]) 18 20 (by kernel_rfl) rfl [.cell 4 36] (by kernel_rfl) (args := [num0_1, den1_1]) (by rw [e60]; exact H)
def t61 (P : Program) (g0_1 : Value) (a1_1 : Value) (b2_1 : Value) (h : Heap) (K : Value -> Heap -> Prop) : Prop :=
 eop P (Instr.box 26 g0_1) h fun g3_1 h1 =>
 rop P (Instr.loadAt 26 g3_1) h1 fun s7 =>
 callM P 64 #[s7, a1_1, b2_1] h1 fun s10 h2 =>
 guardM (asG s10 true) true (fun k_1 => rop P (Instr.loadAt 26 g3_1) h2 fun s12 =>
 k_1 s12 h2) h2 fun s12b h3 =>
 guardM (asG s10 true) true (fun k_2 => k_2 a1_1 h3) h3 fun s13 h4 =>
 guardM (asG s10 true) true (fun k_3 => k_3 b2_1 h4) h4 fun s14 h5 =>
 guardM (asG s10 true) true (fun k_4 => callM P 65 #[s12b, s13, s14] h5 fun s15 h6 =>
 k_4 s15 h6) h5 fun s15b h7 =>
 pop P (pickS s10 s15b (Value.bool false)) fun s16 =>
 K s16 h7
theorem e61 (g0_1 : Value) (a1_1 : Value) (b2_1 : Value) (h : Heap) (K : Value -> Heap -> Prop) : wpA Try.prog 17 (anOf []) (bodyOf Try.f61) 1 (fun A h => resA Try.prog A h K [.tmp 6]) (fun _ _ _ => False) (fun A h => resA Try.prog A h K [.tmp 6]) (aargs [g0_1, a1_1, b2_1] 0) h = t61 Try.prog g0_1 a1_1 b2_1 h K := by kernel_rfl
theorem c61 (g0_1 : Value) (a1_1 : Value) (b2_1 : Value) (h : Heap) (K : Value -> Heap -> Prop) (H : t61 Try.prog g0_1 a1_1 b2_1 h K) : callM Try.prog 61 #[g0_1, a1_1, b2_1] h K :=
  callM_of_wpA mixed (fn := Try.f61) Try.func61 (c := bodyOf Try.f61) rfl (of_decide_eq_true (by kernel_rfl)) (anOf []) 14 17 (by kernel_rfl) rfl [.tmp 6] (by kernel_rfl) (args := [g0_1, a1_1, b2_1]) (by rw [e61]; exact H)
def t62 (P : Program) (g0_1 : Value) (a1_1 : Value) (b2_1 : Value) (h : Heap) (K : Value -> Heap -> Prop) : Prop :=
 eop P (Instr.box 26 g0_1) h fun g3_1 h1 =>
 rop P (Instr.loadAt 26 g3_1) h1 fun s21 =>
 callM P 76 #[s21, a1_1, b2_1] h1 fun s24 h2 =>
 pop P (Instr.extract s24 0) fun s25 =>
 pop P (Instr.extract s24 1) fun s26 =>
 pop P (lenS 37 3 s25) fun s28 =>
 ∃ (I1 : List Value -> Heap -> Prop) (μ_1 : List Value -> Heap -> Nat), I1 [(Value.slice none 0 0), (.int .i64 0)] h2 /\
 ∀ (junk1 : Nat -> Value) (right9_1 : Value) (s29 : Value) (h3 : Heap), I1 [right9_1, s29] h3 ->
 pop P (binA .lss 3 s29 s28) fun s30 =>
 condM s30
 (pop P (Instr.indexAt 37 s25 s29) fun s31 =>
 rop P (Instr.loadAt 3 s31) h3 fun s32 =>
 pop P (Instr.fieldAt 26 g3_1 0) fun s33 =>
 rop P (Instr.loadAt 24 s33) h3 fun s34 =>
 pop P (Instr.indexAt 24 s34 s32) fun s36 =>
 rop P (Instr.loadAt 37 s36) h3 fun s37 =>
 pop P (lenS 37 3 s37) fun s38 =>
 ∃ (I2 : List Value -> Heap -> Prop) (μ_2 : List Value -> Heap -> Nat), I2 [(.int .i64 0), (.int .i64 0)] h3 /\
 ∀ (junk2 : Nat -> Value) (n12_1 : Value) (s39 : Value) (h4 : Heap), I2 [n12_1, s39] h4 ->
 pop P (binA .lss 3 s39 s38) fun s40 =>
 condM s40
 (pop P (Instr.indexAt 37 s37 s39) fun s41 =>
 rop P (Instr.loadAt 3 s41) h4 fun s42 =>
 pop P (binE .eql 3 (.tmp 43) (.tmp 44) s42 a1_1) fun s45 =>
 condM s45
 (pop P (binA .add 3 n12_1 (.int .i64 1)) fun s47 =>
 pop P (binA .add 3 s39 (.int .i64 1)) fun s48 =>
 I2 [s47, s48] h4 /\ μ_2 [s47, s48] h4 < μ_2 [n12_1, s39] h4)
 (pop P (binA .add 3 s39 (.int .i64 1)) fun s48b =>
 I2 [n12_1, s48b] h4 /\ μ_2 [n12_1, s48b] h4 < μ_2 [n12_1, s39] h4))
 (eop P (Instr.buildSlice 37 1 #[(0, n12_1)]) h4 fun s51 h5 =>
 eop P (appS 37 37 37 right9_1 s51) h5 fun s52 h6 =>
 pop P (binA .add 3 s29 (.int .i64 1)) fun s53 =>
 I1 [s52, s53] h6 /\ μ_1 [s52, s53] h6 < μ_1 [right9_1, s29] h3))
 (callM P 77 #[s26, right9_1] h3 fun s57 h7 =>
 pop P (Instr.extract s57 0) fun s58 =>
 pop P (Instr.extract s57 1) fun s59 =>
 pop P (Instr.fieldAt 26 g3_1 0) fun s60 =>
 rop P (Instr.loadAt 24 s60) h7 fun s61 =>
 pop P (lenS 24 3 s61) fun s62 =>
 eop P (Instr.makeSlice 29 s62 s62) h7 fun s63 h8 =>
 pop P (Instr.build 36 #[(0, (.int .i64 1)), (1, (.int .i64 1))]) fun s66 =>
 pop P (Instr.indexAt 29 s63 a1_1) fun s67 =>
 uop P (Instr.storeAt 36 s67 s66) h8 fun q1 h9 =>
 pop P (Instr.build 36 #[(0, (.int .i64 0)), (1, (.int .i64 1))]) fun s70 =>
 pop P (Instr.indexAt 29 s63 b2_1) fun s71 =>
 uop P (Instr.storeAt 36 s71 s70) h9 fun q2 h10 =>
 pop P (lenS 37 3 s25) fun s73 =>
 ∃ (I3 : List Value -> Heap -> Prop) (μ_3 : List Value -> Heap -> Nat), I3 [(.int .i64 0)] h10 /\
 ∀ (junk3 : Nat -> Value) (s74 : Value) (h11 : Heap), I3 [s74] h11 ->
 pop P (binA .lss 3 s74 s73) fun s75 =>
 condM s75
 (pop P (Instr.indexAt 37 s25 s74) fun s77 =>
 rop P (Instr.loadAt 3 s77) h11 fun s78 =>
 pop P (Instr.indexAt 37 s58 s74) fun s83 =>
 rop P (Instr.loadAt 3 s83) h11 fun s84 =>
 callM P 74 #[s84, s59] h11 fun s86 h12 =>
 pop P (Instr.indexAt 29 s63 s78) fun s87 =>
 uop P (Instr.storeAt 36 s87 s86) h12 fun q3 h13 =>
 pop P (binA .add 3 s74 (.int .i64 1)) fun s88 =>
 I3 [s88] h13 /\ μ_3 [s88] h13 < μ_3 [s74] h11)
 (K s63 h11))
theorem e62 (g0_1 : Value) (a1_1 : Value) (b2_1 : Value) (h : Heap) (K : Value -> Heap -> Prop) : wpA Try.prog 90 (anOf [(122, [9, 29]), (4090, [74]), (125338, [12, 39])]) (bodyOf Try.f62) 1 (fun A h => resA Try.prog A h K [.tmp 6]) (fun _ _ _ => False) (fun A h => resA Try.prog A h K [.tmp 6]) (aargs [g0_1, a1_1, b2_1] 0) h = t62 Try.prog g0_1 a1_1 b2_1 h K := by kernel_rfl
theorem c62 (g0_1 : Value) (a1_1 : Value) (b2_1 : Value) (h : Heap) (K : Value -> Heap -> Prop) (H : t62 Try.prog g0_1 a1_1 b2_1 h K) : callM Try.prog 62 #[g0_1, a1_1, b2_1] h K :=
  callM_of_wpA mixed (fn := Try.f62) Try.func62 (c := bodyOf Try.f62) rfl (of_decide_eq_true (by kernel_rfl)) (anOf [(122, [9, 29]), (4090, [74]), (125338, [12, 39])]) 87 90 (by kernel_rfl) rfl [.tmp 6] (by kernel_rfl) (args := [g0_1, a1_1, b2_1]) (by rw [e62]; exact H)
def t63 (P : Program) (g0_1 : Value) (places1_1 : Value) (h : Heap) (K : Value -> Heap -> Prop) : Prop :=
 eop P (Instr.box 26 g0_1) h fun g2_1 h1 =>
 rop P (Instr.loadAt 26 g2_1) h1 fun s5 =>
 callM P 113 #[s5] h1 fun s6 h2 =>
 guardM (asG s6 true) true (fun k_1 => k_1 places1_1 h2) h2 fun s8 h3 =>
 guardM (asG s6 true) true (fun k_2 => pop P (Instr.makeFunc (Fn.func 114) #[] #[g2_1]) fun s9 =>
 k_2 s9 h3) h3 fun s9b h4 =>
 guardM (asG s6 true) true (fun k_3 => callM P 96 #[s8, s9b] h4 fun s10 h5 =>
 k_3 s10 h5) h4 fun s10b h6 =>
 guardM (asG s6 true) true (fun k_4 => pop P (Op.unary .not s10b) fun s11 =>
 k_4 s11 h6) h6 fun s11b h7 =>
 pop P (pickS s6 s11b (Value.bool false)) fun s12 =>
 K s12 h7
theorem e63 (g0_1 : Value) (places1_1 : Value) (h : Heap) (K : Value -> Heap -> Prop) : wpA Try.prog 13 (anOf []) (bodyOf Try.f63) 1 (fun A h => resA Try.prog A h K [.tmp 4]) (fun _ _ _ => False) (fun A h => resA Try.prog A h K [.tmp 4]) (aargs [g0_1, places1_1] 0) h = t63 Try.prog g0_1 places1_1 h K := by kernel_rfl
theorem c63 (g0_1 : Value) (places1_1 : Value) (h : Heap) (K : Value -> Heap -> Prop) (H : t63 Try.prog g0_1 places1_1 h K) : callM Try.prog 63 #[g0_1, places1_1] h K :=
  callM_of_wpA mixed (fn := Try.f63) Try.func63 (c := bodyOf Try.f63) rfl (of_decide_eq_true (by kernel_rfl)) (anOf []) 11 13 (by kernel_rfl) rfl [.tmp 4] (by kernel_rfl) (args := [g0_1, places1_1]) (by rw [e63]; exact H)
def t64 (P : Program) (g0_1 : Value) (a1_1 : Value) (b2_1 : Value) (h : Heap) (K : Value -> Heap -> Prop) : Prop :=
 eop P (Instr.box 26 g0_1) h fun g3_1 h1 =>
 rop P (Instr.loadAt 26 g3_1) h1 fun s7 =>
 callM P 72 #[s7, a1_1] h1 fun s9 h2 =>
 guardM (asG s9 true) true (fun k_1 => rop P (Instr.loadAt 26 g3_1) h2 fun s11 =>
 k_1 s11 h2) h2 fun s11b h3 =>
 guardM (asG s9 true) true (fun k_2 => k_2 b2_1 h3) h3 fun s12 h4 =>
 guardM (asG s9 true) true (fun k_3 => callM P 72 #[s11b, s12] h4 fun s13 h5 =>
 k_3 s13 h5) h4 fun s13b h6 =>
 pop P (pickS s9 s13b (Value.bool false)) fun s14 =>
 guardM (asG s14 true) true (fun k_4 => k_4 a1_1 h6) h6 fun s16 h7 =>
 guardM (asG s14 true) true (fun k_5 => k_5 b2_1 h7) h7 fun s17 h8 =>
 guardM (asG s14 true) true (fun k_6 => pop P (binE .neq 3 (.tmp 16) (.tmp 17) s16 s17) fun s18 =>
 k_6 s18 h8) h8 fun s18b h9 =>
 pop P (pickS s14 s18b (Value.bool false)) fun s19 =>
 K s19 h9
theorem e64 (g0_1 : Value) (a1_1 : Value) (b2_1 : Value) (h : Heap) (K : Value -> Heap -> Prop) : wpA Try.prog 20 (anOf []) (bodyOf Try.f64) 1 (fun A h => resA Try.prog A h K [.tmp 6]) (fun _ _ _ => False) (fun A h => resA Try.prog A h K [.tmp 6]) (aargs [g0_1, a1_1, b2_1] 0) h = t64 Try.prog g0_1 a1_1 b2_1 h K := by kernel_rfl
theorem c64 (g0_1 : Value) (a1_1 : Value) (b2_1 : Value) (h : Heap) (K : Value -> Heap -> Prop) (H : t64 Try.prog g0_1 a1_1 b2_1 h K) : callM Try.prog 64 #[g0_1, a1_1, b2_1] h K :=
  callM_of_wpA mixed (fn := Try.f64) Try.func64 (c := bodyOf Try.f64) rfl (of_decide_eq_true (by kernel_rfl)) (anOf []) 17 20 (by kernel_rfl) rfl [.tmp 6] (by kernel_rfl) (args := [g0_1, a1_1, b2_1]) (by rw [e64]; exact H)
def t65 (P : Program) (g0_1 : Value) (a1_1 : Value) (b2_1 : Value) (h : Heap) (K : Value -> Heap -> Prop) : Prop :=
 eop P (Instr.box 26 g0_1) h fun g3_1 h1 =>
 pop P (Instr.fieldAt 26 g3_1 0) fun s10 =>
 rop P (Instr.loadAt 24 s10) h1 fun s11 =>
 pop P (lenS 24 3 s11) fun s12 =>
 ∃ (I1 : List Value -> Heap -> Prop) (μ_1 : List Value -> Heap -> Nat), I1 [(.int .i64 0)] h1 /\
 ∀ (junk1 : Nat -> Value) (s13 : Value) (h2 : Heap), I1 [s13] h2 ->
 pop P (binA .lss 3 s13 s12) fun s14 =>
 condM s14
 (pop P (Instr.indexAt 24 s11 s13) fun s16 =>
 rop P (Instr.loadAt 37 s16) h2 fun s17 =>
 rop P (Instr.loadAt 26 g3_1) h2 fun s18 =>
 callM P 115 #[s18, s13] h2 fun s20 h3 =>
 pop P (Instr.indexAt 37 s20 a1_1) fun s23 =>
 rop P (Instr.loadAt 3 s23) h3 fun s24 =>
 pop P (binA .lss 3 s24 (.int .i64 0)) fun s25 =>
 guardM (asG s25 true) true (fun k_1 => k_1 s20 h3) h3 fun s27 h4 =>
 guardM (asG s25 true) true (fun k_2 => k_2 b2_1 h4) h4 fun s28 h5 =>
 guardM (asG s25 true) true (fun k_3 => pop P (Instr.indexAt 37 s27 s28) fun s29 =>
 k_3 s29 h5) h5 fun s29b h6 =>
 guardM (asG s25 true) true (fun k_4 => rop P (Instr.loadAt 3 s29b) h6 fun s30 =>
 k_4 s30 h6) h6 fun s30b h7 =>
 guardM (asG s25 true) true (fun k_5 => pop P (binA .lss 3 s30b (.int .i64 0)) fun s31 =>
 k_5 s31 h7) h7 fun s31b h8 =>
 pop P (pickS s25 s31b (Value.bool false)) fun s32 =>
 guardM (asG s32 false) false (fun k_6 => k_6 s13 h8) h8 fun s34 h9 =>
 guardM (asG s32 false) false (fun k_7 => k_7 a1_1 h9) h9 fun s35 h10 =>
 guardM (asG s32 false) false (fun k_8 => pop P (binE .neq 3 (.tmp 34) (.tmp 35) s34 s35) fun s36 =>
 k_8 s36 h10) h10 fun s36b h11 =>
 guardM (asG s32 false) false (fun k_9 => k_9 s36b h11) h11 fun s37 h12 =>
 guardM (asG s37 true) true (fun k_10 => k_10 s13 h12) h12 fun s38 h13 =>
 guardM (asG s37 true) true (fun k_11 => k_11 b2_1 h13) h13 fun s39 h14 =>
 guardM (asG s37 true) true (fun k_12 => pop P (binE .neq 3 (.tmp 38) (.tmp 39) s38 s39) fun s40 =>
 k_12 s40 h14) h14 fun s40b h15 =>
 guardM (asG s32 false) false (fun k_13 => pop P (pickS s37 s40b (Value.bool false)) fun s41 =>
 k_13 s41 h15) h15 fun s41b h16 =>
 guardM (asG s32 false) false (fun k_14 => k_14 s41b h16) h16 fun s42 h17 =>
 guardM (asG s42 true) true (fun k_15 => k_15 s17 h17) h17 fun s43 h18 =>
 guardM (asG s42 true) true (fun k_16 => pop P (lenS 37 3 s43) fun s44 =>
 k_16 s44 h18) h18 fun s44b h19 =>
 guardM (asG s42 true) true (fun k_17 => pop P (binE .eql 3 (.tmp 44) (.const (.int .i64 0)) s44b (.int .i64 0)) fun s45 =>
 k_17 s45 h19) h19 fun s45b h20 =>
 guardM (asG s32 false) false (fun k_18 => pop P (pickS s42 s45b (Value.bool false)) fun s46 =>
 k_18 s46 h20) h20 fun s46b h21 =>
 pop P (pickS s32 (Value.bool true) s46b) fun s47 =>
 condM s47
 (K (Value.bool false) h21)
 (pop P (binA .add 3 s13 (.int .i64 1)) fun s48 =>
 I1 [s48] h21 /\ μ_1 [s48] h21 < μ_1 [s13] h2))
 (K (Value.bool true) h2)
theorem e65 (g0_1 : Value) (a1_1 : Value) (b2_1 : Value) (h : Heap) (K : Value -> Heap -> Prop) : wpA Try.prog 49 (anOf [(26, [13])]) (bodyOf Try.f65) 1 (fun A h => resA Try.prog A h K [.tmp 6]) (fun _ _ _ => False) (fun A h => resA Try.prog A h K [.tmp 6]) (aargs [g0_1, a1_1, b2_1] 0) h = t65 Try.prog g0_1 a1_1 b2_1 h K := by kernel_rfl
theorem c65 (g0_1 : Value) (a1_1 : Value) (b2_1 : Value) (h : Heap) (K : Value -> Heap -> Prop) (H : t65 Try.prog g0_1 a1_1 b2_1 h K) : callM Try.prog 65 #[g0_1, a1_1, b2_1] h K :=
  callM_of_wpA mixed (fn := Try.f65) Try.func65 (c := bodyOf Try.f65) rfl (of_decide_eq_true (by kernel_rfl)) (anOf [(26, [13])]) 46 49 (by kernel_rfl) rfl [.tmp 6] (by kernel_rfl) (args := [g0_1, a1_1, b2_1]) (by rw [e65]; exact H)
def t66 (P : Program) (g0_1 : Value) (a1_1 : Value) (b2_1 : Value) (own3_1 : Value) (atA4_1 : Value) (atB5_1 : Value) (h : Heap) (K : Value -> Heap -> Prop) : Prop :=
 eop P (Instr.box 26 g0_1) h fun g6_1 h1 =>
 eop P (Instr.buildSlice 37 0 #[]) h1 fun s31 h2 =>
 pop P (Instr.fieldAt 26 g6_1 0) fun s32 =>
 rop P (Instr.loadAt 24 s32) h2 fun s33 =>
 pop P (lenS 24 3 s33) fun s34 =>
 ∃ (I1 : List Value -> Heap -> Prop) (μ_1 : List Value -> Heap -> Nat), I1 [s31, (.int .i64 0)] h2 /\
 ∀ (junk1 : Nat -> Value) (inner14_1 : Value) (s35 : Value) (h3 : Heap), I1 [inner14_1, s35] h3 ->
 pop P (binA .lss 3 s35 s34) fun s36 =>
 condM s36
 (pop P (binE .neq 3 (.tmp 38) (.tmp 39) s35 a1_1) fun s40 =>
 guardM (asG s40 true) true (fun k_1 => k_1 s35 h3) h3 fun s42 h4 =>
 guardM (asG s40 true) true (fun k_2 => k_2 b2_1 h4) h4 fun s43 h5 =>
 guardM (asG s40 true) true (fun k_3 => pop P (binE .neq 3 (.tmp 42) (.tmp 43) s42 s43) fun s44 =>
 k_3 s44 h5) h5 fun s44b h6 =>
 pop P (pickS s40 s44b (Value.bool false)) fun s45 =>
 condM s45
 (eop P (Instr.buildSlice 37 1 #[(0, s35)]) h6 fun s48 h7 =>
 eop P (appS 37 37 37 inner14_1 s48) h7 fun s49 h8 =>
 pop P (binA .add 3 s35 (.int .i64 1)) fun s50 =>
 I1 [s49, s50] h8 /\ μ_1 [s49, s50] h8 < μ_1 [inner14_1, s35] h3)
 (pop P (binA .add 3 s35 (.int .i64 1)) fun s50b =>
 I1 [inner14_1, s50b] h6 /\ μ_1 [inner14_1, s50b] h6 < μ_1 [inner14_1, s35] h3))
 (eop P (Instr.buildSlice 24 0 #[]) h3 fun s51 h9 =>
 eop P (Instr.buildSlice 37 0 #[]) h9 fun s52 h10 =>
 pop P (lenS 37 3 inner14_1) fun s54 =>
 ∃ (I2 : List Value -> Heap -> Prop) (μ_2 : List Value -> Heap -> Nat), I2 [s51, s52, (.int .i64 0)] h10 /\
 ∀ (junk2 : Nat -> Value) (matrix16_1 : Value) (right17_1 : Value) (s55 : Value) (h11 : Heap), I2 [matrix16_1, right17_1, s55] h11 ->
 pop P (binA .lss 3 s55 s54) fun s56 =>
 condM s56
 (pop P (Instr.indexAt 37 inner14_1 s55) fun s57 =>
 rop P (Instr.loadAt 3 s57) h11 fun s58 =>
 ∃ J1 : List Value -> Heap -> Prop, (pop P (lenS 37 3 inner14_1) fun s60 =>
 (eop P (Instr.makeSlice 37 s60 s60) h11 fun s61 h12 =>
 callV P own3_1 [s58] h12 fun s64 h13 =>
 J1 [s61, s64] h13) /\
 (callV P own3_1 [s58] h11 fun s64b h14 =>
 eop P (Instr.makeSlice 37 s60 s60) h14 fun s61b h15 =>
 J1 [s61b, s64b] h15)) /\
 ∀ (junk3 : Nat -> Value) (row20_1 : Value) (sum21_1 : Value) (h16 : Heap), J1 [row20_1, sum21_1] h16 ->
 pop P (Instr.fieldAt 26 g6_1 0) fun s65 =>
 rop P (Instr.loadAt 24 s65) h16 fun s66 =>
 pop P (Instr.indexAt 24 s66 s58) fun s68 =>
 rop P (Instr.loadAt 37 s68) h16 fun s69 =>
 pop P (lenS 37 3 s69) fun s70 =>
 ∃ (I3 : List Value -> Heap -> Prop) (μ_3 : List Value -> Heap -> Nat), I3 [sum21_1, (.int .i64 0)] h16 /\
 ∀ (junk4 : Nat -> Value) (sum21_2 : Value) (s71 : Value) (h17 : Heap), I3 [sum21_2, s71] h17 ->
 pop P (binA .lss 3 s71 s70) fun s72 =>
 condM s72
 (pop P (Instr.indexAt 37 s69 s71) fun s73 =>
 rop P (Instr.loadAt 3 s73) h17 fun s74 =>
 pop P (binE .eql 3 (.tmp 75) (.tmp 85) s74 a1_1) fun s86 =>
 condM s86
 (pop P (binA .add 3 sum21_2 atA4_1) fun s89 =>
 pop P (binA .add 3 s71 (.int .i64 1)) fun s96 =>
 I3 [s89, s96] h17 /\ μ_3 [s89, s96] h17 < μ_3 [sum21_2, s71] h17)
 (pop P (binE .eql 3 (.tmp 75) (.tmp 91) s74 b2_1) fun s92 =>
 condM s92
 (pop P (binA .add 3 sum21_2 atB5_1) fun s95 =>
 pop P (binA .add 3 s71 (.int .i64 1)) fun s96b =>
 I3 [s95, s96b] h17 /\ μ_3 [s95, s96b] h17 < μ_3 [sum21_2, s71] h17)
 (callM P 116 #[inner14_1, s74] h17 fun s79 h18 =>
 pop P (Instr.indexAt 37 row20_1 s79) fun s80 =>
 rop P (Instr.loadAt 3 s80) h18 fun s81 =>
 pop P (binA .sub 3 s81 (.int .i64 1)) fun s82 =>
 pop P (Instr.indexAt 37 row20_1 s79) fun s83 =>
 uop P (Instr.storeAt 3 s83 s82) h18 fun q1 h19 =>
 pop P (binA .add 3 s71 (.int .i64 1)) fun s96c =>
 I3 [sum21_2, s96c] h19 /\ μ_3 [sum21_2, s96c] h19 < μ_3 [sum21_2, s71] h17)))
 (pop P (lenS 24 3 matrix16_1) fun s99 =>
 pop P (Instr.indexAt 37 row20_1 s99) fun s100 =>
 rop P (Instr.loadAt 3 s100) h17 fun s101 =>
 pop P (Instr.fieldAt 26 g6_1 0) fun s102 =>
 rop P (Instr.loadAt 24 s102) h17 fun s103 =>
 pop P (Instr.indexAt 24 s103 s58) fun s105 =>
 rop P (Instr.loadAt 37 s105) h17 fun s106 =>
 pop P (lenS 37 3 s106) fun s107 =>
 pop P (binA .add 3 s101 s107) fun s108 =>
 pop P (Instr.indexAt 37 row20_1 s99) fun s109 =>
 uop P (Instr.storeAt 3 s109 s108) h17 fun q2 h20 =>
 eop P (Instr.buildSlice 24 1 #[(0, row20_1)]) h20 fun s112 h21 =>
 eop P (appS 24 24 24 matrix16_1 s112) h21 fun s113 h22 =>
 eop P (Instr.buildSlice 37 1 #[(0, sum21_2)]) h22 fun s116 h23 =>
 eop P (appS 37 37 37 right17_1 s116) h23 fun s117 h24 =>
 pop P (binA .add 3 s55 (.int .i64 1)) fun s118 =>
 I2 [s113, s117, s118] h24 /\ μ_2 [s113, s117, s118] h24 < μ_2 [matrix16_1, right17_1, s55] h11))
 (callM P 88 #[matrix16_1] h11 fun s120 h25 =>
 pop P (Instr.fieldAt 26 g6_1 0) fun s121 =>
 rop P (Instr.loadAt 24 s121) h25 fun s122 =>
 pop P (lenS 24 3 s122) fun s123 =>
 eop P (Instr.makeSlice 37 s123 s123) h25 fun s124 h26 =>
 pop P (binA .mul 3 atA4_1 s120) fun s131 =>
 pop P (binA .mul 3 atB5_1 s120) fun s134 =>
 pop P (Instr.indexAt 37 s124 a1_1) fun s135 =>
 uop P (Instr.storeAt 3 s135 s131) h26 fun q3 h27 =>
 pop P (Instr.indexAt 37 s124 b2_1) fun s136 =>
 uop P (Instr.storeAt 3 s136 s134) h27 fun q4 h28 =>
 pop P (lenS 37 3 inner14_1) fun s138 =>
 ∃ (I4 : List Value -> Heap -> Prop) (μ_4 : List Value -> Heap -> Nat), I4 [(.int .i64 0)] h28 /\
 ∀ (junk5 : Nat -> Value) (s139 : Value) (h29 : Heap), I4 [s139] h29 ->
 pop P (binA .lss 3 s139 s138) fun s140 =>
 condM s140
 (pop P (Instr.indexAt 37 inner14_1 s139) fun s142 =>
 rop P (Instr.loadAt 3 s142) h29 fun s143 =>
 eop P (Instr.buildSlice 24 0 #[]) h29 fun s144 h30 =>
 pop P (lenS 24 3 matrix16_1) fun s146 =>
 ∃ (I5 : List Value -> Heap -> Prop) (μ_5 : List Value -> Heap -> Nat), I5 [s144, (.int .i64 0)] h30 /\
 ∀ (junk6 : Nat -> Value) (other28_1 : Value) (s147 : Value) (h31 : Heap), I5 [other28_1, s147] h31 ->
 pop P (binA .lss 3 s147 s146) fun s148 =>
 condM s148
 (pop P (Instr.indexAt 24 matrix16_1 s147) fun s150 =>
 rop P (Instr.loadAt 37 s150) h31 fun s151 =>
 callM P 117 #[s151] h31 fun s153 h32 =>
 pop P (Instr.indexAt 37 right17_1 s147) fun s158 =>
 rop P (Instr.loadAt 3 s158) h32 fun s159 =>
 pop P (Instr.indexAt 37 s153 s139) fun s160 =>
 uop P (Instr.storeAt 3 s160 s159) h32 fun q5 h33 =>
 eop P (Instr.buildSlice 24 1 #[(0, s153)]) h33 fun s163 h34 =>
 eop P (appS 24 24 24 other28_1 s163) h34 fun s164 h35 =>
 pop P (binA .add 3 s147 (.int .i64 1)) fun s165 =>
 I5 [s164, s165] h35 /\ μ_5 [s164, s165] h35 < μ_5 [other28_1, s147] h31)
 (callM P 88 #[other28_1] h31 fun s169 h36 =>
 pop P (Instr.indexAt 37 s124 s143) fun s170 =>
 uop P (Instr.storeAt 3 s170 s169) h36 fun q6 h37 =>
 pop P (binA .add 3 s139 (.int .i64 1)) fun s171 =>
 I4 [s171] h37 /\ μ_4 [s171] h37 < μ_4 [s139] h29))
 (K (.tuple #[s124, s120]) h29)))
theorem e66 (g0_1 : Value) (a1_1 : Value) (b2_1 : Value) (own3_1 : Value) (atA4_1 : Value) (atB5_1 : Value) (h : Heap) (K : Value -> Heap -> Prop) : wpA Try.prog 174 (anOf [(58, [14, 35]), (250, [16, 17, 55]), (4090, [139]), (16025, [20, 21]), (256410, [21, 71]), (4188570, [28, 147])]) (bodyOf Try.f66) 1 (fun A h => resA Try.prog A h K [.tmp 12, .tmp 13]) (fun _ _ _ => False) (fun A h => resA Try.prog A h K [.tmp 12, .tmp 13]) (aargs [g0_1, a1_1, b2_1, own3_1, atA4_1, atB5_1] 0) h = t66 Try.prog g0_1 a1_1 b2_1 own3_1 atA4_1 atB5_1 h K := by kernel_rfl
theorem c66 (g0_1 : Value) (a1_1 : Value) (b2_1 : Value) (own3_1 : Value) (atA4_1 : Value) (atB5_1 : Value) (h : Heap) (K : Value -> Heap -> Prop) (H : t66 Try.prog g0_1 a1_1 b2_1 own3_1 atA4_1 atB5_1 h K) : callM Try.prog 66 #[g0_1, a1_1, b2_1, own3_1, atA4_1, atB5_1] h K :=
  callM_of_wpA mixed (fn := Try.f66) Try.func66 (c := bodyOf Try.f66) rfl (of_decide_eq_true (by kernel_rfl)) (anOf [(58, [14, 35]), (250, [16, 17, 55]), (4090, [139]), (16025, [20, 21]), (256410, [21, 71]), (4188570, [28, 147])]) 168 174 (by kernel_rfl) rfl [.tmp 12, .tmp 13] (by kernel_rfl) (args := [g0_1, a1_1, b2_1, own3_1, atA4_1, atB5_1]) (by rw [e66]; exact H)
def t68 (P : Program) (c0_1 : Value) (h : Heap) (K : Value -> Heap -> Prop) : Prop :=
 eop P (Instr.alloc 26 true (.tuple #[])) h fun s2 h1 =>
 callM P 118 #[c0_1, (.int .i64 6)] h1 fun s5 h2 =>
 eop P (Instr.alloc 26 true (.tuple #[])) h2 fun g3_1 h3 =>
 uop P (Instr.storeAt 26 g3_1 s5) h3 fun q1 h4 =>
 callM P 70 #[c0_1, (.int .i64 16)] h4 fun s7 h5 =>
 pop P (binE .eql 3 (.tmp 7) (.const (.int .i64 0)) s7 (.int .i64 0)) fun s9 =>
 condM s9
 (pop P (Instr.fieldAt 26 g3_1 0) fun s10 =>
 rop P (Instr.loadAt 24 s10) h5 fun s11 =>
 pop P (Instr.fieldAt 26 g3_1 0) fun s12 =>
 rop P (Instr.loadAt 24 s12) h5 fun s13 =>
 pop P (Instr.indexAt 24 s13 (.int .i64 0)) fun s14 =>
 rop P (Instr.loadAt 37 s14) h5 fun s15 =>
 pop P (Instr.fieldAt 26 g3_1 0) fun s17 =>
 rop P (Instr.loadAt 24 s17) h5 fun s18 =>
 pop P (lenS 24 3 s18) fun s19 =>
 eop P (Instr.buildSlice 37 3 #[(0, (.int .i64 (-1))), (1, s19), (2, (.int .i64 4611686018427387904))]) h5 fun s20 h6 =>
 (∀ w : World, w.heap = h6 -> (Instr.loadAt 24 s17).run P w = .ok s18 w) /\
 (∀ w : World, w.heap = h6 -> (Instr.loadAt 37 s14).run P w = .ok s15 w) /\
 (∀ w : World, w.heap = h6 -> (Instr.loadAt 24 s12).run P w = .ok s13 w) /\
 (∀ w : World, w.heap = h6 -> (Instr.loadAt 24 s10).run P w = .ok s11 w) /\
 callM P 107 #[c0_1, s20] h6 fun s21 h7 =>
 (∀ w : World, w.heap = h7 -> (Instr.loadAt 24 s17).run P w = .ok s18 w) /\
 (∀ w : World, w.heap = h7 -> (Instr.loadAt 37 s14).run P w = .ok s15 w) /\
 (∀ w : World, w.heap = h7 -> (Instr.loadAt 24 s12).run P w = .ok s13 w) /\
 (∀ w : World, w.heap = h7 -> (Instr.loadAt 24 s10).run P w = .ok s11 w) /\
 eop P (Instr.buildSlice 37 1 #[(0, s21)]) h7 fun s22 h8 =>
 (∀ w : World, w.heap = h8 -> (Instr.loadAt 24 s17).run P w = .ok s18 w) /\
 (∀ w : World, w.heap = h8 -> (Instr.loadAt 37 s14).run P w = .ok s15 w) /\
 (∀ w : World, w.heap = h8 -> (Instr.loadAt 24 s12).run P w = .ok s13 w) /\
 (∀ w : World, w.heap = h8 -> (Instr.loadAt 24 s10).run P w = .ok s11 w) /\
 eop P (appS 37 37 37 s15 s22) h8 fun s23 h9 =>
 (∀ w : World, w.heap = h9 -> (Instr.loadAt 24 s17).run P w = .ok s18 w) /\
 (∀ w : World, w.heap = h9 -> (Instr.loadAt 24 s12).run P w = .ok s13 w) /\
 (∀ w : World, w.heap = h9 -> (Instr.loadAt 24 s10).run P w = .ok s11 w) /\
 pop P (Instr.indexAt 24 s11 (.int .i64 0)) fun s24 =>
 uop P (Instr.storeAt 37 s24 s23) h9 fun q2 h10 =>
 rop P (Instr.loadAt 26 g3_1) h10 fun s52 =>
 uop P (Instr.storeAt 26 s2 s52) h10 fun q3 h11 =>
 rop P (Instr.loadAt 26 s2) h11 fun r_1 =>
 K r_1 h11)
 (pop P (binE .eql 3 (.tmp 7) (.const (.int .i64 1)) s7 (.int .i64 1)) fun s26 =>
 condM s26
 (pop P (Instr.fieldAt 26 g3_1 0) fun s27 =>
 rop P (Instr.loadAt 24 s27) h5 fun s28 =>
 callM P 70 #[c0_1, (.int .i64 2)] h5 fun s30 h12 =>
 (∀ w : World, w.heap = h12 -> (Instr.loadAt 24 s27).run P w = .ok s28 w) /\
 pop P (binA .add 3 (.int .i64 5) s30) fun s31 =>
 eop P (Instr.makeSlice 37 s31 s31) h12 fun s32 h13 =>
 (∀ w : World, w.heap = h13 -> (Instr.loadAt 24 s27).run P w = .ok s28 w) /\
 pop P (Instr.indexAt 24 s28 (.int .i64 0)) fun s33 =>
 uop P (Instr.storeAt 37 s33 s32) h13 fun q4 h14 =>
 rop P (Instr.loadAt 26 g3_1) h14 fun s52b =>
 uop P (Instr.storeAt 26 s2 s52b) h14 fun q5 h15 =>
 rop P (Instr.loadAt 26 s2) h15 fun r_2 =>
 K r_2 h15)
 (pop P (binE .eql 3 (.tmp 7) (.const (.int .i64 2)) s7 (.int .i64 2)) fun s35 =>
 condM s35
 (∃ (I1 : List Value -> Heap -> Prop) (μ_1 : List Value -> Heap -> Nat), I1 [] h5 /\
 ∀ (junk1 : Nat -> Value) (h16 : Heap), I1 [] h16 ->
 pop P (Instr.fieldAt 26 g3_1 0) fun s36 =>
 rop P (Instr.loadAt 24 s36) h16 fun s37 =>
 pop P (lenS 24 3 s37) fun s38 =>
 callM P 70 #[c0_1, (.int .i64 2)] h16 fun s40 h17 =>
 (∀ w : World, w.heap = h17 -> (Instr.loadAt 24 s36).run P w = .ok s37 w) /\
 pop P (binA .add 3 (.int .i64 8) s40) fun s41 =>
 pop P (binA .lss 3 s38 s41) fun s42 =>
 condM s42
 (pop P (Instr.fieldAt 26 g3_1 0) fun s43 =>
 rop P (Instr.loadAt 24 s43) h17 fun s44 =>
 eop P (Instr.buildSlice 37 1 #[(0, (.int .i64 0))]) h17 fun s45 h18 =>
 eop P (Instr.buildSlice 24 1 #[(0, s45)]) h18 fun s46 h19 =>
 eop P (appS 24 24 24 s44 s46) h19 fun s47 h20 =>
 pop P (Instr.fieldAt 26 g3_1 0) fun s48 =>
 uop P (Instr.storeAt 24 s48 s47) h20 fun q6 h21 =>
 I1 [] h21 /\ μ_1 [] h21 < μ_1 [] h16)
 (rop P (Instr.loadAt 26 g3_1) h17 fun s52c =>
 uop P (Instr.storeAt 26 s2 s52c) h17 fun q7 h22 =>
 rop P (Instr.loadAt 26 s2) h22 fun r_3 =>
 K r_3 h22))
 (pop P (binE .eql 3 (.tmp 7) (.const (.int .i64 3)) s7 (.int .i64 3)) fun s50 =>
 condM s50
 (pop P (Instr.build 26 #[]) fun s51 =>
 uop P (Instr.storeAt 26 g3_1 s51) h5 fun q8 h23 =>
 rop P (Instr.loadAt 26 g3_1) h23 fun s52d =>
 uop P (Instr.storeAt 26 s2 s52d) h23 fun q9 h24 =>
 rop P (Instr.loadAt 26 s2) h24 fun r_4 =>
 K r_4 h24)
 (rop P (Instr.loadAt 26 g3_1) h5 fun s52e =>
 uop P (Instr.storeAt 26 s2 s52e) h5 fun q10 h25 =>
 rop P (Instr.loadAt 26 s2) h25 fun r_5 =>
 K r_5 h25))))
theorem e68 (c0_1 : Value) (h : Heap) (K : Value -> Heap -> Prop) : wpA Try.prog 53 (anOf [(7548, [])]) (bodyOf Try.f68) 1 (fun A h => resA Try.prog A h K [.cell 2 26]) (fun _ _ _ => False) (fun A h => resA Try.prog A h K [.cell 2 26]) (aargs [c0_1] 0) h = t68 Try.prog c0_1 h K := by kernel_rfl
theorem c68 (c0_1 : Value) (h : Heap) (K : Value -> Heap -> Prop) (H : t68 Try.prog c0_1 h K) : callM Try.prog 68 #[c0_1] h K :=
  callM_of_wpA mixed (fn := Try.f68) Try.func68 (c := bodyOf Try.f68) rfl (of_decide_eq_true (by kernel_rfl)) (anOf [(7548, [])]) 52 53 (by kernel_rfl) rfl [.cell 2 26] (by kernel_rfl) (args := [c0_1]) (by rw [e68]; exact H)
def t69 (P : Program) (c0_1 : Value) (g1_1 : Value) (h : Heap) (K : Value -> Heap -> Prop) : Prop :=
 eop P (Instr.box 26 g1_1) h fun g3_1 h1 =>
 pop P (Instr.fieldAt 26 g3_1 0) fun s5 =>
 rop P (Instr.loadAt 24 s5) h1 fun s6 =>
 pop P (lenS 24 3 s6) fun s7 =>
 pop P (binE .eql 3 (.tmp 7) (.const (.int .i64 0)) s7 (.int .i64 0)) fun s8 =>
 guardM (asG s8 false) false (fun k_1 => k_1 c0_1 h1) h1 fun s10 h2 =>
 guardM (asG s8 false) false (fun k_2 => callM P 106 #[s10, (.int .i64 14)] h2 fun s11 h3 =>
 k_2 s11 h3) h2 fun s11b h4 =>
 pop P (pickS s8 (Value.bool true) s11b) fun s12 =>
 condM s12
 (pop P (Instr.fieldAt 26 g3_1 0) fun s14 =>
 rop P (Instr.loadAt 24 s14) h4 fun s15 =>
 pop P (lenS 24 3 s15) fun s16 =>
 eop P (Instr.buildSlice 37 4 #[(0, (.int .i64 (-1))), (1, (.int .i64 0)), (2, s16), (3, (.int .i64 4611686018427387904))]) h4 fun s17 h5 =>
 callM P 107 #[c0_1, s17] h5 fun s18 h6 =>
 K s18 h6)
 (pop P (Instr.fieldAt 26 g3_1 0) fun s20 =>
 rop P (Instr.loadAt 24 s20) h4 fun s21 =>
 pop P (lenS 24 3 s21) fun s22 =>
 callM P 70 #[c0_1, s22] h4 fun s23 h7 =>
 K s23 h7)
theorem e69 (c0_1 : Value) (g1_1 : Value) (h : Heap) (K : Value -> Heap -> Prop) : wpA Try.prog 24 (anOf []) (bodyOf Try.f69) 1 (fun A h => resA Try.prog A h K [.tmp 4]) (fun _ _ _ => False) (fun A h => resA Try.prog A h K [.tmp 4]) (aargs [c0_1, g1_1] 0) h = t69 Try.prog c0_1 g1_1 h K := by kernel_rfl
theorem c69 (c0_1 : Value) (g1_1 : Value) (h : Heap) (K : Value -> Heap -> Prop) (H : t69 Try.prog c0_1 g1_1 h K) : callM Try.prog 69 #[c0_1, g1_1] h K :=
  callM_of_wpA mixed (fn := Try.f69) Try.func69 (c := bodyOf Try.f69) rfl (of_decide_eq_true (by kernel_rfl)) (anOf []) 22 24 (by kernel_rfl) rfl [.tmp 4] (by kernel_rfl) (args := [c0_1, g1_1]) (by rw [e69]; exact H)
def t70 (P : Program) (c0_1 : Value) (n1_1 : Value) (h : Heap) (K : Value -> Heap -> Prop) : Prop :=
 pop P (binA .leq 3 n1_1 (.int .i64 1)) fun s7 =>
 condM s7
 (K (.int .i64 0) h)
 (callM P 119 #[c0_1] h fun s9 h1 =>
 ∃ J1 : List Value -> Heap -> Prop, (pop P (binA .gtr 3 n1_1 (.int .i64 200)) fun s11 =>
 condM s11
 (pop P (binA .mul 3 s9 (.int .i64 256)) fun s13 =>
 callM P 119 #[c0_1] h1 fun s15 h2 =>
 pop P (binA .add 3 s13 s15) fun s16 =>
 J1 [s16] h2)
 (J1 [s9] h1)) /\
 ∀ (junk1 : Nat -> Value) (x5_1 : Value) (h3 : Heap), J1 [x5_1] h3 ->
 pop P (binA .rem 3 x5_1 n1_1) fun s19 =>
 K s19 h3)
theorem e70 (c0_1 : Value) (n1_1 : Value) (h : Heap) (K : Value -> Heap -> Prop) : wpA Try.prog 20 (anOf [(15, [5])]) (bodyOf Try.f70) 1 (fun A h => resA Try.prog A h K [.tmp 4]) (fun _ _ _ => False) (fun A h => resA Try.prog A h K [.tmp 4]) (aargs [c0_1, n1_1] 0) h = t70 Try.prog c0_1 n1_1 h K := by kernel_rfl
theorem c70 (c0_1 : Value) (n1_1 : Value) (h : Heap) (K : Value -> Heap -> Prop) (H : t70 Try.prog c0_1 n1_1 h K) : callM Try.prog 70 #[c0_1, n1_1] h K :=
  callM_of_wpA mixed (fn := Try.f70) Try.func70 (c := bodyOf Try.f70) rfl (of_decide_eq_true (by kernel_rfl)) (anOf [(15, [5])]) 18 20 (by kernel_rfl) rfl [.tmp 4] (by kernel_rfl) (args := [c0_1, n1_1]) (by rw [e70]; exact H)
def t71 (P : Program) (n0_1 : Value) (low1_1 : Value) (high2_1 : Value) (h : Heap) (K : Value -> Heap -> Prop) : Prop :=
 pop P (binA .leq 3 low1_1 n0_1) fun s9 =>
 guardM (asG s9 true) true (fun k_1 => k_1 n0_1 h) h fun s11 h1 =>
 guardM (asG s9 true) true (fun k_2 => k_2 high2_1 h1) h1 fun s12 h2 =>
 guardM (asG s9 true) true (fun k_3 => pop P (binA .leq 3 s11 s12) fun s13 =>
 k_3 s13 h2) h2 fun s13b h3 =>
 pop P (pickS s9 s13b (Value.bool false)) fun s14 =>
 K s14 h3
theorem e71 (n0_1 : Value) (low1_1 : Value) (high2_1 : Value) (h : Heap) (K : Value -> Heap -> Prop) : wpA Try.prog 15 (anOf []) (bodyOf Try.f71) 1 (fun A h => resA Try.prog A h K [.tmp 6]) (fun _ _ _ => False) (fun A h => resA Try.prog A h K [.tmp 6]) (aargs [n0_1, low1_1, high2_1] 0) h = t71 Try.prog n0_1 low1_1 high2_1 h K := by kernel_rfl
theorem c71 (n0_1 : Value) (low1_1 : Value) (high2_1 : Value) (h : Heap) (K : Value -> Heap -> Prop) (H : t71 Try.prog n0_1 low1_1 high2_1 h K) : callM Try.prog 71 #[n0_1, low1_1, high2_1] h K :=
  callM_of_wpA mixed (fn := Try.f71) Try.func71 (c := bodyOf Try.f71) rfl (of_decide_eq_true (by kernel_rfl)) (anOf []) 12 15 (by kernel_rfl) rfl [.tmp 6] (by kernel_rfl) (args := [n0_1, low1_1, high2_1]) (by rw [e71]; exact H)
def t72 (P : Program) (g0_1 : Value) (p1_1 : Value) (h : Heap) (K : Value -> Heap -> Prop) : Prop :=
 eop P (Instr.box 26 g0_1) h fun g2_1 h1 =>
 rop P (Instr.loadAt 26 g2_1) h1 fun s5 =>
 callM P 120 #[s5] h1 fun s6 h2 =>
 guardM (asG s6 true) true (fun k_1 => k_1 p1_1 h2) h2 fun s8 h3 =>
 guardM (asG s6 true) true (fun k_2 => pop P (Instr.fieldAt 26 g2_1 0) fun s9 =>
 k_2 s9 h3) h3 fun s9b h4 =>
 guardM (asG s6 true) true (fun k_3 => rop P (Instr.loadAt 24 s9b) h4 fun s10 =>
 k_3 s10 h4) h4 fun s10b h5 =>
 guardM (asG s6 true) true (fun k_4 => pop P (lenS 24 3 s10b) fun s11 =>
 k_4 s11 h5) h5 fun s11b h6 =>
 guardM (asG s6 true) true (fun k_5 => pop P (binA .sub 3 s11b (.int .i64 1)) fun s12 =>
 k_5 s12 h6) h6 fun s12b h7 =>
 guardM (asG s6 true) true (fun k_6 => callM P 73 #[s8, (.int .i64 0), s12b] h7 fun s13 h8 =>
 k_6 s13 h8) h7 fun s13b h9 =>
 pop P (pickS s6 s13b (Value.bool false)) fun s14 =>
 K s14 h9
theorem e72 (g0_1 : Value) (p1_1 : Value) (h : Heap) (K : Value -> Heap -> Prop) : wpA Try.prog 15 (anOf []) (bodyOf Try.f72) 1 (fun A h => resA Try.prog A h K [.tmp 4]) (fun _ _ _ => False) (fun A h => resA Try.prog A h K [.tmp 4]) (aargs [g0_1, p1_1] 0) h = t72 Try.prog g0_1 p1_1 h K := by kernel_rfl
theorem c72 (g0_1 : Value) (p1_1 : Value) (h : Heap) (K : Value -> Heap -> Prop) (H : t72 Try.prog g0_1 p1_1 h K) : callM Try.prog 72 #[g0_1, p1_1] h K :=
  callM_of_wpA mixed (fn := Try.f72) Try.func72 (c := bodyOf Try.f72) rfl (of_decide_eq_true (by kernel_rfl)) (anOf []) 13 15 (by kernel_rfl) rfl [.tmp 4] (by kernel_rfl) (args := [g0_1, p1_1]) (by rw [e72]; exact H)
def t73 (P : Program) (n0_1 : Value) (lo1_1 : Value) (hi2_1 : Value) (h : Heap) (K : Value -> Heap -> Prop) : Prop :=
 pop P (binA .geq 3 n0_1 lo1_1) fun s9 =>
 guardM (asG s9 true) true (fun k_1 => k_1 n0_1 h) h fun s11 h1 =>
 guardM (asG s9 true) true (fun k_2 => k_2 hi2_1 h1) h1 fun s12 h2 =>
 guardM (asG s9 true) true (fun k_3 => pop P (binA .leq 3 s11 s12) fun s13 =>
 k_3 s13 h2) h2 fun s13b h3 =>
 pop P (pickS s9 s13b (Value.bool false)) fun s14 =>
 K s14 h3
theorem e73 (n0_1 : Value) (lo1_1 : Value) (hi2_1 : Value) (h : Heap) (K : Value -> Heap -> Prop) : wpA Try.prog 15 (anOf []) (bodyOf Try.f73) 1 (fun A h => resA Try.prog A h K [.tmp 6]) (fun _ _ _ => False) (fun A h => resA Try.prog A h K [.tmp 6]) (aargs [n0_1, lo1_1, hi2_1] 0) h = t73 Try.prog n0_1 lo1_1 hi2_1 h K := by kernel_rfl
theorem c73 (n0_1 : Value) (lo1_1 : Value) (hi2_1 : Value) (h : Heap) (K : Value -> Heap -> Prop) (H : t73 Try.prog n0_1 lo1_1 hi2_1 h K) : callM Try.prog 73 #[n0_1, lo1_1, hi2_1] h K :=
  callM_of_wpA mixed (fn := Try.f73) Try.func73 (c := bodyOf Try.f73) rfl (of_decide_eq_true (by kernel_rfl)) (anOf []) 12 15 (by kernel_rfl) rfl [.tmp 6] (by kernel_rfl) (args := [n0_1, lo1_1, hi2_1]) (by rw [e73]; exact H)
def t74 (P : Program) (num0_1 : Value) (den1_1 : Value) (h : Heap) (K : Value -> Heap -> Prop) : Prop :=
 eop P (Instr.alloc 36 true (.tuple #[])) h fun s4 h1 =>
 ∃ J1 : List Value -> Heap -> Prop, (pop P (binA .lss 3 den1_1 (.int .i64 0)) fun s8 =>
 condM s8
 (pop P (Op.unary .neg num0_1) fun s10 =>
 pop P (Op.unary .neg den1_1) fun s12 =>
 J1 [s10, s12] h1)
 (J1 [num0_1, den1_1] h1)) /\
 ∀ (junk1 : Nat -> Value) (num0_2 : Value) (den1_2 : Value) (h2 : Heap), J1 [num0_2, den1_2] h2 ->
 callM P 85 #[num0_2] h2 fun s14 h3 =>
 ∃ (I1 : List Value -> Heap -> Prop) (μ_1 : List Value -> Heap -> Nat), I1 [s14, den1_2] h3 /\
 ∀ (junk2 : Nat -> Value) (a5_1 : Value) (b6_1 : Value) (h4 : Heap), I1 [a5_1, b6_1] h4 ->
 pop P (binA .gtr 3 b6_1 (.int .i64 0)) fun s17 =>
 condM s17
 (pop P (binA .rem 3 a5_1 b6_1) fun s21 =>
 I1 [b6_1, s21] h4 /\ μ_1 [b6_1, s21] h4 < μ_1 [a5_1, b6_1] h4)
 (pop P (binA .quo 3 num0_2 a5_1) fun s24 =>
 pop P (binA .quo 3 den1_2 a5_1) fun s27 =>
 pop P (Instr.build 36 #[(0, s24), (1, s27)]) fun s28 =>
 uop P (Instr.storeAt 36 s4 s28) h4 fun q1 h5 =>
 rop P (Instr.loadAt 36 s4) h5 fun r_1 =>
 K r_1 h5)
theorem e74 (num0_1 : Value) (den1_1 : Value) (h : Heap) (K : Value -> Heap -> Prop) : wpA Try.prog 29 (anOf [(3, [0, 1]), (60, [5, 6])]) (bodyOf Try.f74) 1 (fun A h => resA Try.prog A h K [.cell 4 36]) (fun _ _ _ => False) (fun A h => resA Try.prog A h K [.cell 4 36]) (aargs [num0_1, den1_1] 0) h = t74 Try.prog num0_1 den1_1 h K := by kernel_rfl
theorem c74 (num0_1 : Value) (den1_1 : Value) (h : Heap) (K : Value -> Heap -> Prop) (H : t74 Try.prog num0_1 den1_1 h K) : callM Try.prog 74 #[num0_1, den1_1] h K :=
  callM_of_wpA mixed (fn := Try.f74) Try.func74 (c := bodyOf Try.f74) rfl (of_decide_eq_true (by kernel_rfl)) (anOf [(3, [0, 1]), (60, [5, 6])]) 27 29 (by kernel_rfl) rfl [.cell 4 36] (by kernel_rfl) (args := [num0_1, den1_1]) (by rw [e74]; exact H)
def t76 (P : Program) (g0_1 : Value) (a1_1 : Value) (b2_1 : Value) (h : Heap) (K : Value -> Heap -> Prop) : Prop :=
 eop P (Instr.box 26 g0_1) h fun g3_1 h1 =>
 pop P (Instr.fieldAt 26 g3_1 0) fun s18 =>
 rop P (Instr.loadAt 24 s18) h1 fun s19 =>
 pop P (lenS 24 3 s19) fun s20 =>
 ∃ (I1 : List Value -> Heap -> Prop) (μ_1 : List Value -> Heap -> Nat), I1 [(Value.slice none 0 0), (.int .i64 0)] h1 /\
 ∀ (junk1 : Nat -> Value) (places8_1 : Value) (s21 : Value) (h2 : Heap), I1 [places8_1, s21] h2 ->
 pop P (binA .lss 3 s21 s20) fun s22 =>
 condM s22
 (pop P (binE .neq 3 (.tmp 24) (.tmp 25) s21 a1_1) fun s26 =>
 guardM (asG s26 true) true (fun k_1 => k_1 s21 h2) h2 fun s28 h3 =>
 guardM (asG s26 true) true (fun k_2 => k_2 b2_1 h3) h3 fun s29 h4 =>
 guardM (asG s26 true) true (fun k_3 => pop P (binE .neq 3 (.tmp 28) (.tmp 29) s28 s29) fun s30 =>
 k_3 s30 h4) h4 fun s30b h5 =>
 pop P (pickS s26 s30b (Value.bool false)) fun s31 =>
 condM s31
 (eop P (Instr.buildSlice 37 1 #[(0, s21)]) h5 fun s34 h6 =>
 eop P (appS 37 37 37 places8_1 s34) h6 fun s35 h7 =>
 pop P (binA .add 3 s21 (.int .i64 1)) fun s36 =>
 I1 [s35, s36] h7 /\ μ_1 [s35, s36] h7 < μ_1 [places8_1, s21] h2)
 (pop P (binA .add 3 s21 (.int .i64 1)) fun s36b =>
 I1 [places8_1, s36b] h5 /\ μ_1 [places8_1, s36b] h5 < μ_1 [places8_1, s21] h2))
 (pop P (lenS 37 3 places8_1) fun s38 =>
 ∃ (I2 : List Value -> Heap -> Prop) (μ_2 : List Value -> Heap -> Nat), I2 [(Value.slice none 0 0), (.int .i64 0)] h2 /\
 ∀ (junk2 : Nat -> Value) (m10_1 : Value) (s39 : Value) (h8 : Heap), I2 [m10_1, s39] h8 ->
 pop P (binA .lss 3 s39 s38) fun s40 =>
 condM s40
 (pop P (Instr.indexAt 37 places8_1 s39) fun s41 =>
 rop P (Instr.loadAt 3 s41) h8 fun s42 =>
 pop P (lenS 37 3 places8_1) fun s44 =>
 eop P (Instr.makeSlice 37 s44 s44) h8 fun s45 h9 =>
 pop P (lenS 37 3 places8_1) fun s47 =>
 ∃ (I3 : List Value -> Heap -> Prop) (μ_3 : List Value -> Heap -> Nat), I3 [(.int .i64 0)] h9 /\
 ∀ (junk3 : Nat -> Value) (s48 : Value) (h10 : Heap), I3 [s48] h10 ->
 pop P (binA .lss 3 s48 s47) fun s49 =>
 condM s49
 (pop P (Instr.indexAt 37 places8_1 s48) fun s51 =>
 rop P (Instr.loadAt 3 s51) h10 fun s52 =>
 ∃ J1 : List Value -> Heap -> Prop, (pop P (binE .eql 3 (.tmp 53) (.tmp 54) s52 s42) fun s55 =>
 condM s55
 (pop P (Instr.indexAt 37 s45 s48) fun s58 =>
 rop P (Instr.loadAt 3 s58) h10 fun s59 =>
 pop P (Instr.fieldAt 26 g3_1 0) fun s60 =>
 rop P (Instr.loadAt 24 s60) h10 fun s61 =>
 pop P (Instr.indexAt 24 s61 s42) fun s63 =>
 rop P (Instr.loadAt 37 s63) h10 fun s64 =>
 pop P (lenS 37 3 s64) fun s65 =>
 pop P (binA .add 3 s59 s65) fun s66 =>
 pop P (Instr.indexAt 37 s45 s48) fun s67 =>
 uop P (Instr.storeAt 3 s67 s66) h10 fun q1 h11 =>
 J1 [] h11)
 (J1 [] h10)) /\
 ∀ (junk4 : Nat -> Value) (h12 : Heap), J1 [] h12 ->
 pop P (Instr.fieldAt 26 g3_1 0) fun s68 =>
 rop P (Instr.loadAt 24 s68) h12 fun s69 =>
 pop P (Instr.indexAt 24 s69 s42) fun s71 =>
 rop P (Instr.loadAt 37 s71) h12 fun s72 =>
 pop P (lenS 37 3 s72) fun s73 =>
 ∃ (I4 : List Value -> Heap -> Prop) (μ_4 : List Value -> Heap -> Nat), I4 [(.int .i64 0)] h12 /\
 ∀ (junk5 : Nat -> Value) (s74 : Value) (h13 : Heap), I4 [s74] h13 ->
 pop P (binA .lss 3 s74 s73) fun s75 =>
 condM s75
 (pop P (Instr.indexAt 37 s72 s74) fun s76 =>
 rop P (Instr.loadAt 3 s76) h13 fun s77 =>
 pop P (binE .eql 3 (.tmp 78) (.tmp 79) s77 s52) fun s80 =>
 condM s80
 (pop P (Instr.indexAt 37 s45 s48) fun s83 =>
 rop P (Instr.loadAt 3 s83) h13 fun s84 =>
 pop P (binA .sub 3 s84 (.int .i64 1)) fun s85 =>
 pop P (Instr.indexAt 37 s45 s48) fun s86 =>
 uop P (Instr.storeAt 3 s86 s85) h13 fun q2 h14 =>
 pop P (binA .add 3 s74 (.int .i64 1)) fun s87 =>
 I4 [s87] h14 /\ μ_4 [s87] h14 < μ_4 [s74] h13)
 (pop P (binA .add 3 s74 (.int .i64 1)) fun s87b =>
 I4 [s87b] h13 /\ μ_4 [s87b] h13 < μ_4 [s74] h13))
 (pop P (binA .add 3 s48 (.int .i64 1)) fun s88 =>
 I3 [s88] h13 /\ μ_3 [s88] h13 < μ_3 [s48] h10))
 (eop P (Instr.buildSlice 24 1 #[(0, s45)]) h10 fun s91 h15 =>
 eop P (appS 24 24 24 m10_1 s91) h15 fun s92 h16 =>
 pop P (binA .add 3 s39 (.int .i64 1)) fun s93 =>
 I2 [s92, s93] h16 /\ μ_2 [s92, s93] h16 < μ_2 [m10_1, s39] h8))
 (K (.tuple #[places8_1, m10_1]) h8))
theorem e76 (g0_1 : Value) (a1_1 : Value) (b2_1 : Value) (h : Heap) (K : Value -> Heap -> Prop) : wpA Try.prog 96 (anOf [(58, [8, 21]), (250, [10, 39]), (256410, [48]), (16410265, []), (131282126, [74])]) (bodyOf Try.f76) 1 (fun A h => resA Try.prog A h K [.tmp 6, .tmp 7]) (fun _ _ _ => False) (fun A h => resA Try.prog A h K [.tmp 6, .tmp 7]) (aargs [g0_1, a1_1, b2_1] 0) h = t76 Try.prog g0_1 a1_1 b2_1 h K := by kernel_rfl
theorem c76 (g0_1 : Value) (a1_1 : Value) (b2_1 : Value) (h : Heap) (K : Value -> Heap -> Prop) (H : t76 Try.prog g0_1 a1_1 b2_1 h K) : callM Try.prog 76 #[g0_1, a1_1, b2_1] h K :=
  callM_of_wpA mixed (fn := Try.f76) Try.func76 (c := bodyOf Try.f76) rfl (of_decide_eq_true (by kernel_rfl)) (anOf [(58, [8, 21]), (250, [10, 39]), (256410, [48]), (16410265, []), (131282126, [74])]) 93 96 (by kernel_rfl) rfl [.tmp 6, .tmp 7] (by kernel_rfl) (args := [g0_1, a1_1, b2_1]) (by rw [e76]; exact H)
def t77 (P : Program) (m0_1 : Value) (right1_1 : Value) (h : Heap) (K : Value -> Heap -> Prop) : Prop :=
 callM P 91 #[m0_1] h fun s14 h1 =>
 pop P (lenS 24 3 m0_1) fun s16 =>
 ∃ (I1 : List Value -> Heap -> Prop) (μ_1 : List Value -> Heap -> Nat), I1 [(Value.slice none 0 0), (.int .i64 0)] h1 /\
 ∀ (junk1 : Nat -> Value) (out7_1 : Value) (s17 : Value) (h2 : Heap), I1 [out7_1, s17] h2 ->
 pop P (binA .lss 3 s17 s16) fun s18 =>
 condM s18
 (pop P (lenS 24 3 m0_1) fun s21 =>
 ∃ (I2 : List Value -> Heap -> Prop) (μ_2 : List Value -> Heap -> Nat), I2 [(Value.slice none 0 0), (.int .i64 0)] h2 /\
 ∀ (junk2 : Nat -> Value) (other9_1 : Value) (s22 : Value) (h3 : Heap), I2 [other9_1, s22] h3 ->
 pop P (binA .lss 3 s22 s21) fun s23 =>
 condM s23
 (pop P (Instr.indexAt 24 m0_1 s22) fun s25 =>
 rop P (Instr.loadAt 37 s25) h3 fun s26 =>
 callM P 121 #[s26] h3 fun s28 h4 =>
 pop P (Instr.indexAt 37 right1_1 s22) fun s33 =>
 rop P (Instr.loadAt 3 s33) h4 fun s34 =>
 pop P (Instr.indexAt 37 s28 s17) fun s35 =>
 uop P (Instr.storeAt 3 s35 s34) h4 fun q1 h5 =>
 eop P (Instr.buildSlice 24 1 #[(0, s28)]) h5 fun s38 h6 =>
 eop P (appS 24 24 24 other9_1 s38) h6 fun s39 h7 =>
 pop P (binA .add 3 s22 (.int .i64 1)) fun s40 =>
 I2 [s39, s40] h7 /\ μ_2 [s39, s40] h7 < μ_2 [other9_1, s22] h3)
 (callM P 91 #[other9_1] h3 fun s43 h8 =>
 eop P (Instr.buildSlice 37 1 #[(0, s43)]) h8 fun s44 h9 =>
 eop P (appS 37 37 37 out7_1 s44) h9 fun s45 h10 =>
 pop P (binA .add 3 s17 (.int .i64 1)) fun s46 =>
 I1 [s45, s46] h10 /\ μ_1 [s45, s46] h10 < μ_1 [out7_1, s17] h2))
 (K (.tuple #[out7_1, s14]) h2)
theorem e77 (m0_1 : Value) (right1_1 : Value) (h : Heap) (K : Value -> Heap -> Prop) : wpA Try.prog 49 (anOf [(122, [7, 17]), (125338, [9, 22])]) (bodyOf Try.f77) 1 (fun A h => resA Try.prog A h K [.tmp 4, .tmp 5]) (fun _ _ _ => False) (fun A h => resA Try.prog A h K [.tmp 4, .tmp 5]) (aargs [m0_1, right1_1] 0) h = t77 Try.prog m0_1 right1_1 h K := by kernel_rfl
theorem c77 (m0_1 : Value) (right1_1 : Value) (h : Heap) (K : Value -> Heap -> Prop) (H : t77 Try.prog m0_1 right1_1 h K) : callM Try.prog 77 #[m0_1, right1_1] h K :=
  callM_of_wpA mixed (fn := Try.f77) Try.func77 (c := bodyOf Try.f77) rfl (of_decide_eq_true (by kernel_rfl)) (anOf [(122, [7, 17]), (125338, [9, 22])]) 47 49 (by kernel_rfl) rfl [.tmp 4, .tmp 5] (by kernel_rfl) (args := [m0_1, right1_1]) (by rw [e77]; exact H)
def t78 (P : Program) (c0_1 : Value) (h : Heap) (K : Value -> Heap -> Prop) : Prop :=
 eop P (Instr.alloc 26 true (.tuple #[])) h fun s2 h1 =>
 callM P 57 #[c0_1] h1 fun s15 h2 =>
 pop P (Instr.extract s15 0) fun s16 =>
 pop P (Instr.extract s15 1) fun s17 =>
 pop P (Instr.extract s15 2) fun s18 =>
 eop P (Instr.alloc 26 true (.tuple #[])) h2 fun g8_1 h3 =>
 uop P (Instr.storeAt 26 g8_1 s16) h3 fun q1 h4 =>
 ∃ J1 : List Value -> Heap -> Prop, (rop P (Instr.loadAt 26 g8_1) h4 fun s19 =>
 callM P 120 #[s19] h4 fun s20 h5 =>
 condM s20
 (rop P (Instr.loadAt 26 g8_1) h5 fun s22 =>
 callM P 122 #[c0_1, s22] h5 fun s23 h6 =>
 pop P (Instr.field 114 s23 0) fun s24 =>
 J1 [s24] h6)
 (J1 [(Value.slice none 0 0)] h5)) /\
 ∀ (junk1 : Nat -> Value) (rotors11_1 : Value) (h7 : Heap), J1 [rotors11_1] h7 ->
 callM P 70 #[c0_1, (.int .i64 30)] h7 fun s26 h8 =>
 ∃ J2 : List Value -> Heap -> Prop, (callM P 106 #[c0_1, (.int .i64 12)] h8 fun s28 h9 =>
 condM s28
 (eop P (Instr.buildSlice 37 4 #[(0, (.int .i64 (-1))), (1, (.int .i64 0)), (2, (.int .i64 100)), (3, (.int .i64 101))]) h9 fun s30 h10 =>
 callM P 107 #[c0_1, s30] h10 fun s31 h11 =>
 J2 [s31] h11)
 (J2 [s26] h9)) /\
 ∀ (junk2 : Nat -> Value) (n12_1 : Value) (h12 : Heap), J2 [n12_1] h12 ->
 rop P (Instr.loadAt 26 g8_1) h12 fun s32 =>
 rop P (Instr.loadAt 26 g8_1) h12 fun s35 =>
 callM P 69 #[c0_1, s35] h12 fun s36 h13 =>
 (∀ w : World, w.heap = h13 -> (Instr.loadAt 26 g8_1).run P w = .ok s32 w) /\
 uop P (Instr.storeAt 26 s2 s32) h13 fun q2 h14 =>
 rop P (Instr.loadAt 26 s2) h14 fun r_1 =>
 K (.tuple #[r_1, rotors11_1, s36, s17, s18, n12_1]) h14
theorem e78 (c0_1 : Value) (h : Heap) (K : Value -> Heap -> Prop) : wpA Try.prog 40 (anOf [(15, [11]), (63, [12])]) (bodyOf Try.f78) 1 (fun A h => resA Try.prog A h K [.cell 2 26, .tmp 3, .tmp 4, .tmp 5, .tmp 6, .tmp 7]) (fun _ _ _ => False) (fun A h => resA Try.prog A h K [.cell 2 26, .tmp 3, .tmp 4, .tmp 5, .tmp 6, .tmp 7]) (aargs [c0_1] 0) h = t78 Try.prog c0_1 h K := by kernel_rfl
theorem c78 (c0_1 : Value) (h : Heap) (K : Value -> Heap -> Prop) (H : t78 Try.prog c0_1 h K) : callM Try.prog 78 #[c0_1] h K :=
  callM_of_wpA mixed (fn := Try.f78) Try.func78 (c := bodyOf Try.f78) rfl (of_decide_eq_true (by kernel_rfl)) (anOf [(15, [11]), (63, [12])]) 39 40 (by kernel_rfl) rfl [.cell 2 26, .tmp 3, .tmp 4, .tmp 5, .tmp 6, .tmp 7] (by kernel_rfl) (args := [c0_1]) (by rw [e78]; exact H)
def t79 (P : Program) (g0_1 : Value) (rotors1_1 : Value) (p2_1 : Value) (a3_1 : Value) (b4_1 : Value) (n5_1 : Value) (h : Heap) (K : Value -> Heap -> Prop) : Prop :=
 eop P (Instr.box 26 g0_1) h fun g6_1 h1 =>
 rop P (Instr.loadAt 26 g6_1) h1 fun s19 =>
 callM P 58 #[s19, a3_1, b4_1] h1 fun s22 h2 =>
 pop P (Op.unary .not s22) fun s23 =>
 guardM (asG s23 false) false (fun k_1 => rop P (Instr.loadAt 26 g6_1) h2 fun s25 =>
 k_1 s25 h2) h2 fun s25b h3 =>
 guardM (asG s23 false) false (fun k_2 => k_2 p2_1 h3) h3 fun s26 h4 =>
 guardM (asG s23 false) false (fun k_3 => eop P (Instr.buildSlice 37 1 #[(0, s26)]) h4 fun s27 h5 =>
 k_3 s27 h5) h4 fun s27b h6 =>
 guardM (asG s23 false) false (fun k_4 => callM P 63 #[s25b, s27b] h6 fun s28 h7 =>
 k_4 s28 h7) h6 fun s28b h8 =>
 guardM (asG s23 false) false (fun k_5 => pop P (Op.unary .not s28b) fun s29 =>
 k_5 s29 h8) h8 fun s29b h9 =>
 pop P (pickS s23 (Value.bool true) s29b) fun s30 =>
 guardM (asG s30 false) false (fun k_6 => rop P (Instr.loadAt 26 g6_1) h9 fun s32 =>
 k_6 s32 h9) h9 fun s32b h10 =>
 guardM (asG s30 false) false (fun k_7 => k_7 rotors1_1 h10) h10 fun s33 h11 =>
 guardM (asG s30 false) false (fun k_8 => callM P 123 #[s32b, s33] h11 fun s34 h12 =>
 k_8 s34 h12) h11 fun s34b h13 =>
 guardM (asG s30 false) false (fun k_9 => pop P (Op.unary .not s34b) fun s35 =>
 k_9 s35 h13) h13 fun s35b h14 =>
 pop P (pickS s30 (Value.bool true) s35b) fun s36 =>
 guardM (asG s36 false) false (fun k_10 => k_10 n5_1 h14) h14 fun s38 h15 =>
 guardM (asG s36 false) false (fun k_11 => callM P 71 #[s38, (.int .i64 0), (.int .i64 100)] h15 fun s39 h16 =>
 k_11 s39 h16) h15 fun s39b h17 =>
 guardM (asG s36 false) false (fun k_12 => pop P (Op.unary .not s39b) fun s40 =>
 k_12 s40 h17) h17 fun s40b h18 =>
 pop P (pickS s36 (Value.bool true) s40b) fun s41 =>
 condM s41
 (K (.tuple #[(Value.slice none 0 0), (Value.slice none 0 0), (.int .i64 0), (Value.bool false)]) h18)
 (callM P 117 #[rotors1_1] h18 fun s43 h19 =>
 pop P (Instr.build 114 #[(0, s43), (1, p2_1)]) fun s45 =>
 eop P (Instr.buildSlice 37 0 #[]) h19 fun s46 h20 =>
 eop P (Instr.alloc 114 true (.tuple #[])) h20 fun w16_1 h21 =>
 uop P (Instr.storeAt 114 w16_1 s45) h21 fun q1 h22 =>
 ∃ (I1 : List Value -> Heap -> Prop) (μ_1 : List Value -> Heap -> Nat), I1 [s46, (.int .i64 0), (.int .i64 0)] h22 /\
 ∀ (junk1 : Nat -> Value) (list17_1 : Value) (steps18_1 : Value) (s48 : Value) (h23 : Heap), I1 [list17_1, steps18_1, s48] h23 ->
 pop P (binA .lss 3 s48 n5_1) fun s49 =>
 condM s49
 (pop P (Instr.fieldAt 114 w16_1 1) fun s51 =>
 uop P (Instr.storeAt 3 s51 p2_1) h23 fun q2 h24 =>
 ∃ (I2 : List Value -> Heap -> Prop) (μ_2 : List Value -> Heap -> Nat), I2 [steps18_1] h24 /\
 ∀ (junk2 : Nat -> Value) (steps18_2 : Value) (h25 : Heap), I2 [steps18_2] h25 ->
 pop P (Instr.fieldAt 114 w16_1 1) fun s52 =>
 rop P (Instr.loadAt 3 s52) h25 fun s53 =>
 pop P (binE .neq 3 (.tmp 53) (.tmp 54) s53 a3_1) fun s55 =>
 guardM (asG s55 true) true (fun k_13 => pop P (Instr.fieldAt 114 w16_1 1) fun s57 =>
 k_13 s57 h25) h25 fun s57b h26 =>
 guardM (asG s55 true) true (fun k_14 => rop P (Instr.loadAt 3 s57b) h26 fun s58 =>
 k_14 s58 h26) h26 fun s58b h27 =>
 guardM (asG s55 true) true (fun k_15 => k_15 b4_1 h27) h27 fun s59 h28 =>
 guardM (asG s55 true) true (fun k_16 => pop P (binE .neq 3 (.tmp 58) (.tmp 59) s58b s59) fun s60 =>
 k_16 s60 h28) h28 fun s60b h29 =>
 pop P (pickS s55 s60b (Value.bool false)) fun s61 =>
 condM s61
 (rop P (Instr.loadAt 26 g6_1) h29 fun s62 =>
 callM P 124 #[s62, w16_1] h29 fun s63 h30 =>
 pop P (binA .add 3 steps18_2 (.int .i64 1)) fun s65 =>
 I2 [s65] h30 /\ μ_2 [s65] h30 < μ_2 [steps18_2] h25)
 (pop P (Instr.fieldAt 114 w16_1 1) fun s66 =>
 rop P (Instr.loadAt 3 s66) h29 fun s67 =>
 pop P (binE .eql 3 (.tmp 67) (.tmp 68) s67 a3_1) fun s69 =>
 condM s69
 (eop P (Instr.buildSlice 37 1 #[(0, (.int .i64 1))]) h29 fun s71 h31 =>
 eop P (appS 37 37 37 list17_1 s71) h31 fun s72 h32 =>
 pop P (binA .add 3 s48 (.int .i64 1)) fun s76 =>
 I1 [s72, steps18_2, s76] h32 /\ μ_1 [s72, steps18_2, s76] h32 < μ_1 [list17_1, steps18_1, s48] h23)
 (eop P (Instr.buildSlice 37 1 #[(0, (.int .i64 0))]) h29 fun s74 h33 =>
 eop P (appS 37 37 37 list17_1 s74) h33 fun s75 h34 =>
 pop P (binA .add 3 s48 (.int .i64 1)) fun s76b =>
 I1 [s75, steps18_2, s76b] h34 /\ μ_1 [s75, steps18_2, s76b] h34 < μ_1 [list17_1, steps18_1, s48] h23)))
 (pop P (Instr.fieldAt 114 w16_1 0) fun s78 =>
 rop P (Instr.loadAt 37 s78) h23 fun s79 =>
 K (.tuple #[list17_1, s79, steps18_1, (Value.bool true)]) h23))
theorem e79 (g0_1 : Value) (rotors1_1 : Value) (p2_1 : Value) (a3_1 : Value) (b4_1 : Value) (n5_1 : Value) (h : Heap) (K : Value -> Heap -> Prop) : wpA Try.prog 81 (anOf [(122, [17, 18, 48]), (31332, [18])]) (bodyOf Try.f79) 1 (fun A h => resA Try.prog A h K [.tmp 12, .tmp 13, .tmp 14, .tmp 15]) (fun _ _ _ => False) (fun A h => resA Try.prog A h K [.tmp 12, .tmp 13, .tmp 14, .tmp 15]) (aargs [g0_1, rotors1_1, p2_1, a3_1, b4_1, n5_1] 0) h = t79 Try.prog g0_1 rotors1_1 p2_1 a3_1 b4_1 n5_1 h K := by kernel_rfl
theorem c79 (g0_1 : Value) (rotors1_1 : Value) (p2_1 : Value) (a3_1 : Value) (b4_1 : Value) (n5_1 : Value) (h : Heap) (K : Value -> Heap -> Prop) (H : t79 Try.prog g0_1 rotors1_1 p2_1 a3_1 b4_1 n5_1 h K) : callM Try.prog 79 #[g0_1, rotors1_1, p2_1, a3_1, b4_1, n5_1] h K :=
  callM_of_wpA mixed (fn := Try.f79) Try.func79 (c := bodyOf Try.f79) rfl (of_decide_eq_true (by kernel_rfl)) (anOf [(122, [17, 18, 48]), (31332, [18])]) 75 81 (by kernel_rfl) rfl [.tmp 12, .tmp 13, .tmp 14, .tmp 15] (by kernel_rfl) (args := [g0_1, rotors1_1, p2_1, a3_1, b4_1, n5_1]) (by rw [e79]; exact H)
def t80 (P : Program) (list0_1 : Value) (h : Heap) (K : Value -> Heap -> Prop) : Prop :=
 pop P (lenS 37 3 list0_1) fun s7 =>
 ∃ (I1 : List Value -> Heap -> Prop) (μ_1 : List Value -> Heap -> Nat), I1 [(.int .i64 0), (.int .i64 0)] h /\
 ∀ (junk1 : Nat -> Value) (out3_1 : Value) (s8 : Value) (h1 : Heap), I1 [out3_1, s8] h1 ->
 pop P (binA .lss 3 s8 s7) fun s9 =>
 condM s9
 (pop P (Instr.indexAt 37 list0_1 s8) fun s10 =>
 rop P (Instr.loadAt 3 s10) h1 fun s11 =>
 pop P (binA .add 3 out3_1 s11) fun s14 =>
 pop P (binA .add 3 s8 (.int .i64 1)) fun s15 =>
 I1 [s14, s15] h1 /\ μ_1 [s14, s15] h1 < μ_1 [out3_1, s8] h1)
 (K out3_1 h1)
theorem e80 (list0_1 : Value) (h : Heap) (K : Value -> Heap -> Prop) : wpA Try.prog 17 (anOf [(58, [3, 8])]) (bodyOf Try.f80) 1 (fun A h => resA Try.prog A h K [.tmp 2]) (fun _ _ _ => False) (fun A h => resA Try.prog A h K [.tmp 2]) (aargs [list0_1] 0) h = t80 Try.prog list0_1 h K := by kernel_rfl
theorem c80 (list0_1 : Value) (h : Heap) (K : Value -> Heap -> Prop) (H : t80 Try.prog list0_1 h K) : callM Try.prog 80 #[list0_1] h K :=
  callM_of_wpA mixed (fn := Try.f80) Try.func80 (c := bodyOf Try.f80) rfl (of_decide_eq_true (by kernel_rfl)) (anOf [(58, [3, 8])]) 16 17 (by kernel_rfl) rfl [.tmp 2] (by kernel_rfl) (args := [list0_1]) (by rw [e80]; exact H)
def t81 (P : Program) (g0_1 : Value) (rotors1_1 : Value) (p2_1 : Value) (a3_1 : Value) (b4_1 : Value) (n5_1 : Value) (h : Heap) (K : Value -> Heap -> Prop) : Prop :=
 eop P (Instr.box 26 g0_1) h fun g6_1 h1 =>
 rop P (Instr.loadAt 26 g6_1) h1 fun s13 =>
 callM P 61 #[s13, a3_1, b4_1] h1 fun s16 h2 =>
 guardM (asG s16 true) true (fun k_1 => rop P (Instr.loadAt 26 g6_1) h2 fun s18 =>
 k_1 s18 h2) h2 fun s18b h3 =>
 guardM (asG s16 true) true (fun k_2 => k_2 rotors1_1 h3) h3 fun s19 h4 =>
 guardM (asG s16 true) true (fun k_3 => k_3 p2_1 h4) h4 fun s20 h5 =>
 guardM (asG s16 true) true (fun k_4 => pop P (Instr.build 114 #[(0, s19), (1, s20)]) fun s21 =>
 k_4 s21 h5) h5 fun s21b h6 =>
 guardM (asG s16 true) true (fun k_5 => callM P 125 #[s18b, s21b] h6 fun s22 h7 =>
 k_5 s22 h7) h6 fun s22b h8 =>
 pop P (pickS s16 s22b (Value.bool false)) fun s23 =>
 guardM (asG s23 true) true (fun k_6 => k_6 n5_1 h8) h8 fun s25 h9 =>
 guardM (asG s23 true) true (fun k_7 => callM P 73 #[s25, (.int .i64 0), (.int .i64 100)] h9 fun s26 h10 =>
 k_7 s26 h10) h9 fun s26b h11 =>
 pop P (pickS s23 s26b (Value.bool false)) fun s27 =>
 K s27 h11
theorem e81 (g0_1 : Value) (rotors1_1 : Value) (p2_1 : Value) (a3_1 : Value) (b4_1 : Value) (n5_1 : Value) (h : Heap) (K : Value -> Heap -> Prop) : wpA Try.prog 28 (anOf []) (bodyOf Try.f81) 1 (fun A h => resA Try.prog A h K [.tmp 12]) (fun _ _ _ => False) (fun A h => resA Try.prog A h K [.tmp 12]) (aargs [g0_1, rotors1_1, p2_1, a3_1, b4_1, n5_1] 0) h = t81 Try.prog g0_1 rotors1_1 p2_1 a3_1 b4_1 n5_1 h K := by kernel_rfl
theorem c81 (g0_1 : Value) (rotors1_1 : Value) (p2_1 : Value) (a3_1 : Value) (b4_1 : Value) (n5_1 : Value) (h : Heap) (K : Value -> Heap -> Prop) (H : t81 Try.prog g0_1 rotors1_1 p2_1 a3_1 b4_1 n5_1 h K) : callM Try.prog 81 #[g0_1, rotors1_1, p2_1, a3_1, b4_1, n5_1] h K :=
  callM_of_wpA mixed (fn := Try.f81) Try.func81 (c := bodyOf Try.f81) rfl (of_decide_eq_true (by kernel_rfl)) (anOf []) 22 28 (by kernel_rfl) rfl [.tmp 12] (by kernel_rfl) (args := [g0_1, rotors1_1, p2_1, a3_1, b4_1, n5_1]) (by rw [e81]; exact H)
def t82 (P : Program) (list0_1 : Value) (h : Heap) (K : Value -> Heap -> Prop) : Prop :=
 pop P (lenS 37 3 list0_1) fun s7 =>
 ∃ (I1 : List Value -> Heap -> Prop) (μ_1 : List Value -> Heap -> Nat), I1 [(.int .i64 0), (.int .i64 0)] h /\
 ∀ (junk1 : Nat -> Value) (sum3_1 : Value) (s8 : Value) (h1 : Heap), I1 [sum3_1, s8] h1 ->
 pop P (binA .lss 3 s8 s7) fun s9 =>
 condM s9
 (pop P (Instr.indexAt 37 list0_1 s8) fun s10 =>
 rop P (Instr.loadAt 3 s10) h1 fun s11 =>
 pop P (binA .add 3 sum3_1 s11) fun s14 =>
 pop P (binA .add 3 s8 (.int .i64 1)) fun s15 =>
 I1 [s14, s15] h1 /\ μ_1 [s14, s15] h1 < μ_1 [sum3_1, s8] h1)
 (K sum3_1 h1)
theorem e82 (list0_1 : Value) (h : Heap) (K : Value -> Heap -> Prop) : wpA Try.prog 17 (anOf [(58, [3, 8])]) (bodyOf Try.f82) 1 (fun A h => resA Try.prog A h K [.tmp 2]) (fun _ _ _ => False) (fun A h => resA Try.prog A h K [.tmp 2]) (aargs [list0_1] 0) h = t82 Try.prog list0_1 h K := by kernel_rfl
theorem c82 (list0_1 : Value) (h : Heap) (K : Value -> Heap -> Prop) (H : t82 Try.prog list0_1 h K) : callM Try.prog 82 #[list0_1] h K :=
  callM_of_wpA mixed (fn := Try.f82) Try.func82 (c := bodyOf Try.f82) rfl (of_decide_eq_true (by kernel_rfl)) (anOf [(58, [3, 8])]) 16 17 (by kernel_rfl) rfl [.tmp 2] (by kernel_rfl) (args := [list0_1]) (by rw [e82]; exact H)
def t83 (P : Program) (g0_1 : Value) (rotors1_1 : Value) (p2_1 : Value) (a3_1 : Value) (b4_1 : Value) (n5_1 : Value) (h : Heap) (K : Value -> Heap -> Prop) : Prop :=
 eop P (Instr.box 26 g0_1) h fun g6_1 h1 =>
 eop P (Instr.alloc 91 true (.tuple #[])) h1 fun s12 h2 =>
 callM P 121 #[rotors1_1] h2 fun s19 h3 =>
 pop P (Instr.build 91 #[(1, s19)]) fun s20 =>
 eop P (Instr.alloc 91 true (.tuple #[])) h3 fun out13_1 h4 =>
 uop P (Instr.storeAt 91 out13_1 s20) h4 fun q1 h5 =>
 ∃ (I1 : List Value -> Heap -> Prop) (μ_1 : List Value -> Heap -> Nat), I1 [n5_1] h5 /\
 ∀ (junk1 : Nat -> Value) (n5_2 : Value) (h6 : Heap), I1 [n5_2] h6 ->
 pop P (binA .gtr 3 n5_2 (.int .i64 0)) fun s22 =>
 condM s22
 (∃ (I2 : List Value -> Heap -> Prop) (μ_2 : List Value -> Heap -> Nat), I2 [p2_1] h6 /\
 ∀ (junk2 : Nat -> Value) (at14_1 : Value) (h7 : Heap), I2 [at14_1] h7 ->
 pop P (binE .neq 3 (.tmp 26) (.tmp 27) at14_1 a3_1) fun s28 =>
 guardM (asG s28 true) true (fun k_1 => k_1 at14_1 h7) h7 fun s30 h8 =>
 guardM (asG s28 true) true (fun k_2 => k_2 b4_1 h8) h8 fun s31 h9 =>
 guardM (asG s28 true) true (fun k_3 => pop P (binE .neq 3 (.tmp 30) (.tmp 31) s30 s31) fun s32 =>
 k_3 s32 h9) h9 fun s32b h10 =>
 pop P (pickS s28 s32b (Value.bool false)) fun s33 =>
 condM s33
 (pop P (Instr.fieldAt 26 g6_1 0) fun s34 =>
 rop P (Instr.loadAt 24 s34) h10 fun s35 =>
 pop P (Instr.indexAt 24 s35 at14_1) fun s37 =>
 rop P (Instr.loadAt 37 s37) h10 fun s38 =>
 pop P (Instr.fieldAt 91 out13_1 1) fun s39 =>
 rop P (Instr.loadAt 37 s39) h10 fun s40 =>
 pop P (Instr.indexAt 37 s40 at14_1) fun s42 =>
 rop P (Instr.loadAt 3 s42) h10 fun s43 =>
 pop P (binA .add 3 s43 (.int .i64 1)) fun s44 =>
 pop P (lenS 37 3 s38) fun s46 =>
 pop P (binA .rem 3 s44 s46) fun s47 =>
 pop P (Instr.fieldAt 91 out13_1 1) fun s48 =>
 rop P (Instr.loadAt 37 s48) h10 fun s49 =>
 pop P (Instr.indexAt 37 s49 at14_1) fun s52 =>
 uop P (Instr.storeAt 3 s52 s47) h10 fun q2 h11 =>
 pop P (Instr.indexAt 37 s38 s47) fun s55 =>
 rop P (Instr.loadAt 3 s55) h11 fun s56 =>
 pop P (Instr.fieldAt 91 out13_1 2) fun s57 =>
 rop P (Instr.loadAt 3 s57) h11 fun s58 =>
 pop P (binA .add 3 s58 (.int .i64 1)) fun s59 =>
 pop P (Instr.fieldAt 91 out13_1 2) fun s60 =>
 uop P (Instr.storeAt 3 s60 s59) h11 fun q3 h12 =>
 I2 [s56] h12 /\ μ_2 [s56] h12 < μ_2 [at14_1] h7)
 (∃ J1 : List Value -> Heap -> Prop, (pop P (binE .eql 3 (.tmp 61) (.tmp 62) at14_1 a3_1) fun s63 =>
 condM s63
 (J1 [(.int .i64 1)] h10)
 (J1 [(.int .i64 0)] h10)) /\
 ∀ (junk3 : Nat -> Value) (hit17_1 : Value) (h13 : Heap), J1 [hit17_1] h13 ->
 pop P (Instr.fieldAt 91 out13_1 0) fun s64 =>
 rop P (Instr.loadAt 37 s64) h13 fun s65 =>
 eop P (Instr.buildSlice 37 1 #[(0, hit17_1)]) h13 fun s67 h14 =>
 eop P (appS 37 37 37 s65 s67) h14 fun s68 h15 =>
 pop P (Instr.fieldAt 91 out13_1 0) fun s69 =>
 uop P (Instr.storeAt 37 s69 s68) h15 fun q4 h16 =>
 pop P (binA .sub 3 n5_2 (.int .i64 1)) fun s24 =>
 I1 [s24] h16 /\ μ_1 [s24] h16 < μ_1 [n5_2] h6))
 (rop P (Instr.loadAt 91 out13_1) h6 fun s70 =>
 uop P (Instr.storeAt 91 s12 s70) h6 fun q5 h17 =>
 rop P (Instr.loadAt 91 s12) h17 fun r_1 =>
 K r_1 h17)
theorem e83 (g0_1 : Value) (rotors1_1 : Value) (p2_1 : Value) (a3_1 : Value) (b4_1 : Value) (n5_1 : Value) (h : Heap) (K : Value -> Heap -> Prop) : wpA Try.prog 71 (anOf [(28, [5]), (3620, [14]), (3623, [17])]) (bodyOf Try.f83) 1 (fun A h => resA Try.prog A h K [.cell 12 91]) (fun _ _ _ => False) (fun A h => resA Try.prog A h K [.cell 12 91]) (aargs [g0_1, rotors1_1, p2_1, a3_1, b4_1, n5_1] 0) h = t83 Try.prog g0_1 rotors1_1 p2_1 a3_1 b4_1 n5_1 h K := by kernel_rfl
theorem c83 (g0_1 : Value) (rotors1_1 : Value) (p2_1 : Value) (a3_1 : Value) (b4_1 : Value) (n5_1 : Value) (h : Heap) (K : Value -> Heap -> Prop) (H : t83 Try.prog g0_1 rotors1_1 p2_1 a3_1 b4_1 n5_1 h K) : callM Try.prog 83 #[g0_1, rotors1_1, p2_1, a3_1, b4_1, n5_1] h K :=
  callM_of_wpA mixed (fn := Try.f83) Try.func83 (c := bodyOf Try.f83) rfl (of_decide_eq_true (by kernel_rfl)) (anOf [(28, [5]), (3620, [14]), (3623, [17])]) 65 71 (by kernel_rfl) rfl [.cell 12 91] (by kernel_rfl) (args := [g0_1, rotors1_1, p2_1, a3_1, b4_1, n5_1]) (by rw [e83]; exact H)
def t84 (P : Program) (x0_1 : Value) (h : Heap) (K : Value -> Heap -> Prop) : Prop :=
 pop P (Op.unary .neg x0_1) fun s5 =>
 pop P (Builtin.max_ #[3, 3] 3 #[x0_1, s5]) fun s6 =>
 K s6 h
theorem e84 (x0_1 : Value) (h : Heap) (K : Value -> Heap -> Prop) : wpA Try.prog 7 (anOf []) (bodyOf Try.f84) 1 (fun A h => resA Try.prog A h K [.tmp 2]) (fun _ _ _ => False) (fun A h => resA Try.prog A h K [.tmp 2]) (aargs [x0_1] 0) h = t84 Try.prog x0_1 h K := by kernel_rfl
theorem c84 (x0_1 : Value) (h : Heap) (K : Value -> Heap -> Prop) (H : t84 Try.prog x0_1 h K) : callM Try.prog 84 #[x0_1] h K :=
  callM_of_wpA mixed (fn := Try.f84) Try.func84 (c := bodyOf Try.f84) rfl (of_decide_eq_true (by kernel_rfl)) (anOf []) 6 7 (by kernel_rfl) rfl [.tmp 2] (by kernel_rfl) (args := [x0_1]) (by rw [e84]; exact H)
def t85 (P : Program) (n0_1 : Value) (h : Heap) (K : Value -> Heap -> Prop) : Prop :=
 pop P (Op.unary .neg n0_1) fun s5 =>
 callM P 126 #[n0_1, s5] h fun s6 h1 =>
 K s6 h1
theorem e85 (n0_1 : Value) (h : Heap) (K : Value -> Heap -> Prop) : wpA Try.prog 7 (anOf []) (bodyOf Try.f85) 1 (fun A h => resA Try.prog A h K [.tmp 2]) (fun _ _ _ => False) (fun A h => resA Try.prog A h K [.tmp 2]) (aargs [n0_1] 0) h = t85 Try.prog n0_1 h K := by kernel_rfl
theorem c85 (n0_1 : Value) (h : Heap) (K : Value -> Heap -> Prop) (H : t85 Try.prog n0_1 h K) : callM Try.prog 85 #[n0_1] h K :=
  callM_of_wpA mixed (fn := Try.f85) Try.func85 (c := bodyOf Try.f85) rfl (of_decide_eq_true (by kernel_rfl)) (anOf []) 6 7 (by kernel_rfl) rfl [.tmp 2] (by kernel_rfl) (args := [n0_1]) (by rw [e85]; exact H)
def t86 (P : Program) (g0_1 : Value) (a1_1 : Value) (b2_1 : Value) (h : Heap) (K : Value -> Heap -> Prop) : Prop :=
 eop P (Instr.box 26 g0_1) h fun g3_1 h1 =>
 eop P (Instr.alloc 36 true (.tuple #[])) h1 fun s6 h2 =>
 rop P (Instr.loadAt 26 g3_1) h2 fun s18 =>
 callM P 76 #[s18, a1_1, b2_1] h2 fun s21 h3 =>
 pop P (Instr.extract s21 0) fun s22 =>
 pop P (Instr.extract s21 1) fun s23 =>
 callM P 91 #[s23] h3 fun s25 h4 =>
 callM P 85 #[s25] h4 fun s26 h5 =>
 rop P (Instr.loadAt 26 g3_1) h5 fun s27 =>
 callM P 62 #[s27, a1_1, b2_1] h5 fun s30 h6 =>
 pop P (lenS 37 3 s22) fun s33 =>
 ∃ (I1 : List Value -> Heap -> Prop) (μ_1 : List Value -> Heap -> Nat), I1 [s26, (.int .i64 0)] h6 /\
 ∀ (junk1 : Nat -> Value) (sum11_1 : Value) (s34 : Value) (h7 : Heap), I1 [sum11_1, s34] h7 ->
 pop P (binA .lss 3 s34 s33) fun s35 =>
 condM s35
 (pop P (Instr.indexAt 37 s22 s34) fun s36 =>
 rop P (Instr.loadAt 3 s36) h7 fun s37 =>
 pop P (Instr.fieldAt 26 g3_1 0) fun s38 =>
 rop P (Instr.loadAt 24 s38) h7 fun s39 =>
 pop P (Instr.indexAt 24 s39 s37) fun s41 =>
 rop P (Instr.loadAt 37 s41) h7 fun s42 =>
 pop P (lenS 37 3 s42) fun s43 =>
 ∃ (I2 : List Value -> Heap -> Prop) (μ_2 : List Value -> Heap -> Nat), I2 [sum11_1, (.int .i64 0)] h7 /\
 ∀ (junk2 : Nat -> Value) (sum11_2 : Value) (s44 : Value) (h8 : Heap), I2 [sum11_2, s44] h8 ->
 pop P (binA .lss 3 s44 s43) fun s45 =>
 condM s45
 (pop P (Instr.indexAt 37 s42 s44) fun s46 =>
 rop P (Instr.loadAt 3 s46) h8 fun s47 =>
 pop P (Instr.indexAt 29 s30 s37) fun s50 =>
 pop P (Instr.fieldAt 36 s50 0) fun s51 =>
 rop P (Instr.loadAt 3 s51) h8 fun s52 =>
 pop P (Instr.indexAt 29 s30 s37) fun s56 =>
 pop P (Instr.fieldAt 36 s56 1) fun s57 =>
 rop P (Instr.loadAt 3 s57) h8 fun s58 =>
 pop P (binA .quo 3 s26 s58) fun s59 =>
 pop P (binA .mul 3 s52 s59) fun s60 =>
 pop P (Instr.indexAt 29 s30 s47) fun s63 =>
 pop P (Instr.fieldAt 36 s63 0) fun s64 =>
 rop P (Instr.loadAt 3 s64) h8 fun s65 =>
 pop P (Instr.indexAt 29 s30 s47) fun s69 =>
 pop P (Instr.fieldAt 36 s69 1) fun s70 =>
 rop P (Instr.loadAt 3 s70) h8 fun s71 =>
 pop P (binA .quo 3 s26 s71) fun s72 =>
 pop P (binA .mul 3 s65 s72) fun s73 =>
 pop P (binA .sub 3 s60 s73) fun s74 =>
 callM P 85 #[s74] h8 fun s77 h9 =>
 pop P (binA .add 3 sum11_2 s77) fun s78 =>
 pop P (binA .add 3 s44 (.int .i64 1)) fun s79 =>
 I2 [s78, s79] h9 /\ μ_2 [s78, s79] h9 < μ_2 [sum11_2, s44] h8)
 (pop P (binA .add 3 s34 (.int .i64 1)) fun s80 =>
 I1 [sum11_2, s80] h8 /\ μ_1 [sum11_2, s80] h8 < μ_1 [sum11_1, s34] h7))
 (callM P 74 #[sum11_1, s26] h7 fun s83 h10 =>
 uop P (Instr.storeAt 36 s6 s83) h10 fun q1 h11 =>
 rop P (Instr.loadAt 36 s6) h11 fun r_1 =>
 K r_1 h11)
theorem e86 (g0_1 : Value) (a1_1 : Value) (b2_1 : Value) (h : Heap) (K : Value -> Heap -> Prop) : wpA Try.prog 84 (anOf [(506, [11, 34]), (129638, [11, 44])]) (bodyOf Try.f86) 1 (fun A h => resA Try.prog A h K [.cell 6 36]) (fun _ _ _ => False) (fun A h => resA Try.prog A h K [.cell 6 36]) (aargs [g0_1, a1_1, b2_1] 0) h = t86 Try.prog g0_1 a1_1 b2_1 h K := by kernel_rfl
theorem c86 (g0_1 : Value) (a1_1 : Value) (b2_1 : Value) (h : Heap) (K : Value -> Heap -> Prop) (H : t86 Try.prog g0_1 a1_1 b2_1 h K) : callM Try.prog 86 #[g0_1, a1_1, b2_1] h K :=
  callM_of_wpA mixed (fn := Try.f86) Try.func86 (c := bodyOf Try.f86) rfl (of_decide_eq_true (by kernel_rfl)) (anOf [(506, [11, 34]), (129638, [11, 44])]) 81 84 (by kernel_rfl) rfl [.cell 6 36] (by kernel_rfl) (args := [g0_1, a1_1, b2_1]) (by rw [e86]; exact H)
def t88 (P : Program) (m0_1 : Value) (h : Heap) (K : Value -> Heap -> Prop) : Prop :=
 pop P (lenS 24 3 m0_1) fun s14 =>
 eop P (Instr.buildSlice 24 0 #[]) h fun s15 h1 =>
 pop P (lenS 24 3 m0_1) fun s17 =>
 ∃ (I1 : List Value -> Heap -> Prop) (μ_1 : List Value -> Heap -> Nat), I1 [s15, (.int .i64 0)] h1 /\
 ∀ (junk1 : Nat -> Value) (a6_1 : Value) (s18 : Value) (h2 : Heap), I1 [a6_1, s18] h2 ->
 pop P (binA .lss 3 s18 s17) fun s19 =>
 condM s19
 (pop P (Instr.indexAt 24 m0_1 s18) fun s20 =>
 rop P (Instr.loadAt 37 s20) h2 fun s21 =>
 callM P 117 #[s21] h2 fun s24 h3 =>
 eop P (Instr.buildSlice 24 1 #[(0, s24)]) h3 fun s25 h4 =>
 eop P (appS 24 24 24 a6_1 s25) h4 fun s26 h5 =>
 pop P (binA .add 3 s18 (.int .i64 1)) fun s27 =>
 I1 [s26, s27] h5 /\ μ_1 [s26, s27] h5 < μ_1 [a6_1, s18] h2)
 (∃ (I2 : List Value -> Heap -> Prop) (μ_2 : List Value -> Heap -> Nat), I2 [(.int .i64 1), (.int .i64 1), (.int .i64 0)] h2 /\
 ∀ (junk2 : Nat -> Value) (sign4_1 : Value) (last5_1 : Value) (s29 : Value) (h6 : Heap), I2 [sign4_1, last5_1, s29] h6 ->
 pop P (binA .lss 3 s29 s14) fun s30 =>
 condM s30
 (∃ (I3 : List Value -> Heap -> Prop) (μ_3 : List Value -> Heap -> Nat), I3 [s29] h6 /\
 ∀ (junk3 : Nat -> Value) (pivot10_1 : Value) (h7 : Heap), I3 [pivot10_1] h7 ->
 pop P (binA .lss 3 pivot10_1 s14) fun s35 =>
 guardM (asG s35 true) true (fun k_1 => k_1 a6_1 h7) h7 fun s37 h8 =>
 guardM (asG s35 true) true (fun k_2 => k_2 pivot10_1 h8) h8 fun s38 h9 =>
 guardM (asG s35 true) true (fun k_3 => pop P (Instr.indexAt 24 s37 s38) fun s39 =>
 k_3 s39 h9) h9 fun s39b h10 =>
 guardM (asG s35 true) true (fun k_4 => rop P (Instr.loadAt 37 s39b) h10 fun s40 =>
 k_4 s40 h10) h10 fun s40b h11 =>
 guardM (asG s35 true) true (fun k_5 => k_5 s29 h11) h11 fun s41 h12 =>
 guardM (asG s35 true) true (fun k_6 => pop P (Instr.indexAt 37 s40b s41) fun s42 =>
 k_6 s42 h12) h12 fun s42b h13 =>
 guardM (asG s35 true) true (fun k_7 => rop P (Instr.loadAt 3 s42b) h13 fun s43 =>
 k_7 s43 h13) h13 fun s43b h14 =>
 guardM (asG s35 true) true (fun k_8 => pop P (binE .eql 3 (.tmp 43) (.const (.int .i64 0)) s43b (.int .i64 0)) fun s44 =>
 k_8 s44 h14) h14 fun s44b h15 =>
 pop P (pickS s35 s44b (Value.bool false)) fun s45 =>
 condM s45
 (pop P (binA .add 3 pivot10_1 (.int .i64 1)) fun s47 =>
 I3 [s47] h15 /\ μ_3 [s47] h15 < μ_3 [pivot10_1] h7)
 (pop P (binE .eql 3 (.tmp 48) (.tmp 49) pivot10_1 s14) fun s50 =>
 condM s50
 (K (.int .i64 0) h15)
 (∃ J1 : List Value -> Heap -> Prop, (pop P (binE .neq 3 (.tmp 51) (.tmp 52) pivot10_1 s29) fun s53 =>
 condM s53
 (pop P (Instr.indexAt 24 a6_1 s29) fun s60 =>
 rop P (Instr.loadAt 37 s60) h15 fun s61 =>
 pop P (Instr.indexAt 24 a6_1 pivot10_1) fun s64 =>
 rop P (Instr.loadAt 37 s64) h15 fun s65 =>
 pop P (Instr.indexAt 24 a6_1 pivot10_1) fun s66 =>
 uop P (Instr.storeAt 37 s66 s61) h15 fun q1 h16 =>
 pop P (Instr.indexAt 24 a6_1 s29) fun s67 =>
 uop P (Instr.storeAt 37 s67 s65) h16 fun q2 h17 =>
 pop P (Op.unary .neg sign4_1) fun s69 =>
 J1 [s69] h17)
 (J1 [sign4_1] h15)) /\
 ∀ (junk4 : Nat -> Value) (sign4_2 : Value) (h18 : Heap), J1 [sign4_2] h18 ->
 pop P (binA .add 3 s29 (.int .i64 1)) fun s71 =>
 ∃ (I4 : List Value -> Heap -> Prop) (μ_4 : List Value -> Heap -> Nat), I4 [s71] h18 /\
 ∀ (junk5 : Nat -> Value) (i11_1 : Value) (h19 : Heap), I4 [i11_1] h19 ->
 pop P (binA .lss 3 i11_1 s14) fun s74 =>
 condM s74
 (pop P (binA .add 3 s29 (.int .i64 1)) fun s78 =>
 ∃ (I5 : List Value -> Heap -> Prop) (μ_5 : List Value -> Heap -> Nat), I5 [s78] h19 /\
 ∀ (junk6 : Nat -> Value) (j12_1 : Value) (h20 : Heap), I5 [j12_1] h20 ->
 pop P (binA .lss 3 j12_1 s14) fun s81 =>
 condM s81
 (pop P (Instr.indexAt 24 a6_1 i11_1) fun s86 =>
 rop P (Instr.loadAt 37 s86) h20 fun s87 =>
 pop P (Instr.indexAt 24 a6_1 i11_1) fun s91 =>
 rop P (Instr.loadAt 37 s91) h20 fun s92 =>
 pop P (Instr.indexAt 37 s92 j12_1) fun s94 =>
 rop P (Instr.loadAt 3 s94) h20 fun s95 =>
 pop P (Instr.indexAt 24 a6_1 s29) fun s98 =>
 rop P (Instr.loadAt 37 s98) h20 fun s99 =>
 pop P (Instr.indexAt 37 s99 s29) fun s101 =>
 rop P (Instr.loadAt 3 s101) h20 fun s102 =>
 pop P (binA .mul 3 s95 s102) fun s103 =>
 pop P (Instr.indexAt 24 a6_1 i11_1) fun s106 =>
 rop P (Instr.loadAt 37 s106) h20 fun s107 =>
 pop P (Instr.indexAt 37 s107 s29) fun s109 =>
 rop P (Instr.loadAt 3 s109) h20 fun s110 =>
 pop P (Instr.indexAt 24 a6_1 s29) fun s113 =>
 rop P (Instr.loadAt 37 s113) h20 fun s114 =>
 pop P (Instr.indexAt 37 s114 j12_1) fun s116 =>
 rop P (Instr.loadAt 3 s116) h20 fun s117 =>
 pop P (binA .mul 3 s110 s117) fun s118 =>
 pop P (binA .sub 3 s103 s118) fun s119 =>
 pop P (binA .quo 3 s119 last5_1) fun s121 =>
 pop P (Instr.indexAt 37 s87 j12_1) fun s122 =>
 uop P (Instr.storeAt 3 s122 s121) h20 fun q3 h21 =>
 pop P (binA .add 3 j12_1 (.int .i64 1)) fun s83 =>
 I5 [s83] h21 /\ μ_5 [s83] h21 < μ_5 [j12_1] h20)
 (pop P (binA .add 3 i11_1 (.int .i64 1)) fun s76 =>
 I4 [s76] h20 /\ μ_4 [s76] h20 < μ_4 [i11_1] h19))
 (pop P (Instr.indexAt 24 a6_1 s29) fun s125 =>
 rop P (Instr.loadAt 37 s125) h19 fun s126 =>
 pop P (Instr.indexAt 37 s126 s29) fun s128 =>
 rop P (Instr.loadAt 3 s128) h19 fun s129 =>
 pop P (binA .add 3 s29 (.int .i64 1)) fun s130 =>
 I2 [sign4_2, s129, s130] h19 /\ μ_2 [sign4_2, s129, s130] h19 < μ_2 [sign4_1, last5_1, s29] h6))))
 (pop P (binA .mul 3 sign4_1 last5_1) fun s133 =>
 K s133 h6))
theorem e88 (m0_1 : Value) (h : Heap) (K : Value -> Heap -> Prop) : wpA Try.prog 134 (anOf [(122, [6, 18]), (250, [4, 5, 29]), (128204, [10]), (128207, [4]), (2051322, [11]), (131284626, [12])]) (bodyOf Try.f88) 1 (fun A h => resA Try.prog A h K [.tmp 2]) (fun _ _ _ => False) (fun A h => resA Try.prog A h K [.tmp 2]) (aargs [m0_1] 0) h = t88 Try.prog m0_1 h K := by kernel_rfl
theorem c88 (m0_1 : Value) (h : Heap) (K : Value -> Heap -> Prop) (H : t88 Try.prog m0_1 h K) : callM Try.prog 88 #[m0_1] h K :=
  callM_of_wpA mixed (fn := Try.f88) Try.func88 (c := bodyOf Try.f88) rfl (of_decide_eq_true (by kernel_rfl)) (anOf [(122, [6, 18]), (250, [4, 5, 29]), (128204, [10]), (128207, [4]), (2051322, [11]), (131284626, [12])]) 133 134 (by kernel_rfl) rfl [.tmp 2] (by kernel_rfl) (args := [m0_1]) (by rw [e88]; exact H)
def t91 (P : Program) (m0_1 : Value) (h : Heap) (K : Value -> Heap -> Prop) : Prop :=
 pop P (lenS 24 3 m0_1) fun s11 =>
 pop P (binE .eql 3 (.tmp 11) (.const (.int .i64 0)) s11 (.int .i64 0)) fun s12 =>
 condM s12
 (K (.int .i64 1) h)
 (pop P (Instr.indexAt 24 m0_1 (.int .i64 0)) fun s14 =>
 rop P (Instr.loadAt 37 s14) h fun s15 =>
 pop P (lenS 37 3 s15) fun s16 =>
 ∃ (I1 : List Value -> Heap -> Prop) (μ_1 : List Value -> Heap -> Nat), I1 [(.int .i64 0), (.int .i64 1), (.int .i64 0)] h /\
 ∀ (junk1 : Nat -> Value) (sum3_1 : Value) (sign4_1 : Value) (s17 : Value) (h1 : Heap), I1 [sum3_1, sign4_1, s17] h1 ->
 pop P (binA .lss 3 s17 s16) fun s18 =>
 condM s18
 (pop P (Instr.indexAt 37 s15 s17) fun s20 =>
 rop P (Instr.loadAt 3 s20) h1 fun s21 =>
 ∃ J1 : List Value -> Heap -> Prop, (pop P (binE .neq 3 (.tmp 22) (.const (.int .i64 0)) s21 (.int .i64 0)) fun s23 =>
 condM s23
 (pop P (Instr.sliceAt 24 m0_1 (some (.int .i64 1)) none none) fun s25 =>
 pop P (lenS 24 3 s25) fun s26 =>
 ∃ (I2 : List Value -> Heap -> Prop) (μ_2 : List Value -> Heap -> Nat), I2 [(Value.slice none 0 0), (.int .i64 0)] h1 /\
 ∀ (junk2 : Nat -> Value) (rest7_1 : Value) (s27 : Value) (h2 : Heap), I2 [rest7_1, s27] h2 ->
 pop P (binA .lss 3 s27 s26) fun s28 =>
 condM s28
 (pop P (Instr.indexAt 24 s25 s27) fun s29 =>
 rop P (Instr.loadAt 37 s29) h2 fun s30 =>
 pop P (Instr.sliceAt 37 s30 none (some s17) none) fun s34 =>
 pop P (binA .add 3 s17 (.int .i64 1)) fun s38 =>
 pop P (Instr.sliceAt 37 s30 (some s38) none none) fun s39 =>
 callM P 121 #[s34] h2 fun s35 h3 =>
 eop P (appS 37 37 37 s35 s39) h3 fun s40 h4 =>
 eop P (Instr.buildSlice 24 1 #[(0, s40)]) h4 fun s41 h5 =>
 eop P (appS 24 24 24 rest7_1 s41) h5 fun s42 h6 =>
 pop P (binA .add 3 s27 (.int .i64 1)) fun s43 =>
 I2 [s42, s43] h6 /\ μ_2 [s42, s43] h6 < μ_2 [rest7_1, s27] h2)
 (pop P (binA .mul 3 sign4_1 s21) fun s47 =>
 callM P 91 #[rest7_1] h2 fun s49 h7 =>
 pop P (binA .mul 3 s47 s49) fun s50 =>
 pop P (binA .add 3 sum3_1 s50) fun s51 =>
 J1 [s51] h7))
 (J1 [sum3_1] h1)) /\
 ∀ (junk3 : Nat -> Value) (sum3_2 : Value) (h8 : Heap), J1 [sum3_2] h8 ->
 pop P (Op.unary .neg sign4_1) fun s53 =>
 pop P (binA .add 3 s17 (.int .i64 1)) fun s54 =>
 I1 [sum3_2, s53, s54] h8 /\ μ_1 [sum3_2, s53, s54] h8 < μ_1 [sum3_1, sign4_1, s17] h1)
 (K sum3_1 h1))
theorem e91 (m0_1 : Value) (h : Heap) (K : Value -> Heap -> Prop) : wpA Try.prog 56 (anOf [(122, [3, 4, 17]), (7833, [3]), (1002666, [7, 27])]) (bodyOf Try.f91) 1 (fun A h => resA Try.prog A h K [.tmp 2]) (fun _ _ _ => False) (fun A h => resA Try.prog A h K [.tmp 2]) (aargs [m0_1] 0) h = t91 Try.prog m0_1 h K := by kernel_rfl
theorem c91 (m0_1 : Value) (h : Heap) (K : Value -> Heap -> Prop) (H : t91 Try.prog m0_1 h K) : callM Try.prog 91 #[m0_1] h K :=
  callM_of_wpA mixed (fn := Try.f91) Try.func91 (c := bodyOf Try.f91) rfl (of_decide_eq_true (by kernel_rfl)) (anOf [(122, [3, 4, 17]), (7833, [3]), (1002666, [7, 27])]) 55 56 (by kernel_rfl) rfl [.tmp 2] (by kernel_rfl) (args := [m0_1]) (by rw [e91]; exact H)
def t96 (P : Program) (s0_1 : Value) (f1_1 : Value) (h : Heap) (K : Value -> Heap -> Prop) : Prop :=
 callM P 132 #[s0_1, f1_1] h fun s7 h1 =>
 pop P (binA .geq 3 s7 (.int .i64 0)) fun s8 =>
 K s8 h1
theorem e96 (s0_1 : Value) (f1_1 : Value) (h : Heap) (K : Value -> Heap -> Prop) : wpA Try.prog 9 (anOf []) (bodyOf Try.f96) 1 (fun A h => resA Try.prog A h K [.tmp 4]) (fun _ _ _ => False) (fun A h => resA Try.prog A h K [.tmp 4]) (aargs [s0_1, f1_1] 0) h = t96 Try.prog s0_1 f1_1 h K := by kernel_rfl
theorem c96 (s0_1 : Value) (f1_1 : Value) (h : Heap) (K : Value -> Heap -> Prop) (H : t96 Try.prog s0_1 f1_1 h K) : callM Try.prog 96 #[s0_1, f1_1] h K :=
  callM_of_wpA mixed (fn := Try.f96) Try.func96 (c := bodyOf Try.f96) rfl (of_decide_eq_true (by kernel_rfl)) (anOf []) 7 9 (by kernel_rfl) rfl [.tmp 4] (by kernel_rfl) (args := [s0_1, f1_1]) (by rw [e96]; exact H)
def t106 (P : Program) (c0_1 : Value) (n1_1 : Value) (h : Heap) (K : Value -> Heap -> Prop) : Prop :=
 callM P 70 #[c0_1, n1_1] h fun s7 h1 =>
 pop P (binE .eql 3 (.tmp 7) (.const (.int .i64 0)) s7 (.int .i64 0)) fun s8 =>
 K s8 h1
theorem e106 (c0_1 : Value) (n1_1 : Value) (h : Heap) (K : Value -> Heap -> Prop) : wpA Try.prog 9 (anOf []) (bodyOf Try.f106) 1 (fun A h => resA Try.prog A h K [.tmp 4]) (fun _ _ _ => False) (fun A h => resA Try.prog A h K [.tmp 4]) (aargs [c0_1, n1_1] 0) h = t106 Try.prog c0_1 n1_1 h K := by kernel_rfl
theorem c106 (c0_1 : Value) (n1_1 : Value) (h : Heap) (K : Value -> Heap -> Prop) (H : t106 Try.prog c0_1 n1_1 h K) : callM Try.prog 106 #[c0_1, n1_1] h K :=
  callM_of_wpA mixed (fn := Try.f106) Try.func106 (c := bodyOf Try.f106) rfl (of_decide_eq_true (by kernel_rfl)) (anOf []) 7 9 (by kernel_rfl) rfl [.tmp 4] (by kernel_rfl) (args := [c0_1, n1_1]) (by rw [e106]; exact H)
def t107 (P : Program) (c0_1 : Value) (list1_1 : Value) (h : Heap) (K : Value -> Heap -> Prop) : Prop :=
 pop P (lenS 37 3 list1_1) fun s8 =>
 callM P 70 #[c0_1, s8] h fun s9 h1 =>
 pop P (Instr.indexAt 37 list1_1 s9) fun s10 =>
 rop P (Instr.loadAt 3 s10) h1 fun s11 =>
 K s11 h1
theorem e107 (c0_1 : Value) (list1_1 : Value) (h : Heap) (K : Value -> Heap -> Prop) : wpA Try.prog 12 (anOf []) (bodyOf Try.f107) 1 (fun A h => resA Try.prog A h K [.tmp 4]) (fun _ _ _ => False) (fun A h => resA Try.prog A h K [.tmp 4]) (aargs [c0_1, list1_1] 0) h = t107 Try.prog c0_1 list1_1 h K := by kernel_rfl
theorem c107 (c0_1 : Value) (list1_1 : Value) (h : Heap) (K : Value -> Heap -> Prop) (H : t107 Try.prog c0_1 list1_1 h K) : callM Try.prog 107 #[c0_1, list1_1] h K :=
  callM_of_wpA mixed (fn := Try.f107) Try.func107 (c := bodyOf Try.f107) rfl (of_decide_eq_true (by kernel_rfl)) (anOf []) 10 12 (by kernel_rfl) rfl [.tmp 4] (by kernel_rfl) (args := [c0_1, list1_1]) (by rw [e107]; exact H)
def t108 (P : Program) (l0_1 : Value) (lo1_1 : Value) (hi2_1 : Value) (h : Heap) (K : Value -> Heap -> Prop) : Prop :=
 pop P (lenS 37 3 l0_1) fun s10 =>
 ∃ (I1 : List Value -> Heap -> Prop) (μ_1 : List Value -> Heap -> Nat), I1 [(.int .i64 0)] h /\
 ∀ (junk1 : Nat -> Value) (s11 : Value) (h1 : Heap), I1 [s11] h1 ->
 pop P (binA .lss 3 s11 s10) fun s12 =>
 condM s12
 (pop P (Instr.indexAt 37 l0_1 s11) fun s13 =>
 rop P (Instr.loadAt 3 s13) h1 fun s14 =>
 callM P 73 #[s14, lo1_1, hi2_1] h1 fun s18 h2 =>
 pop P (Op.unary .not s18) fun s19 =>
 condM s19
 (K (Value.bool false) h2)
 (pop P (binA .add 3 s11 (.int .i64 1)) fun s20 =>
 I1 [s20] h2 /\ μ_1 [s20] h2 < μ_1 [s11] h1))
 (K (Value.bool true) h1)
theorem e108 (l0_1 : Value) (lo1_1 : Value) (hi2_1 : Value) (h : Heap) (K : Value -> Heap -> Prop) : wpA Try.prog 21 (anOf [(26, [11])]) (bodyOf Try.f108) 1 (fun A h => resA Try.prog A h K [.tmp 6]) (fun _ _ _ => False) (fun A h => resA Try.prog A h K [.tmp 6]) (aargs [l0_1, lo1_1, hi2_1] 0) h = t108 Try.prog l0_1 lo1_1 hi2_1 h K := by kernel_rfl
theorem c108 (l0_1 : Value) (lo1_1 : Value) (hi2_1 : Value) (h : Heap) (K : Value -> Heap -> Prop) (H : t108 Try.prog l0_1 lo1_1 hi2_1 h K) : callM Try.prog 108 #[l0_1, lo1_1, hi2_1] h K :=
  callM_of_wpA mixed (fn := Try.f108) Try.func108 (c := bodyOf Try.f108) rfl (of_decide_eq_true (by kernel_rfl)) (anOf [(26, [11])]) 18 21 (by kernel_rfl) rfl [.tmp 6] (by kernel_rfl) (args := [l0_1, lo1_1, hi2_1]) (by rw [e108]; exact H)
def t109 (P : Program) (c0_1 : Value) (h : Heap) (K : Value -> Heap -> Prop) : Prop :=
 eop P (Instr.alloc 26 true (.tuple #[])) h fun s2 h1 =>
 callM P 106 #[c0_1, (.int .i64 6)] h1 fun s10 h2 =>
 condM s10
 (callM P 68 #[c0_1] h2 fun s12 h3 =>
 uop P (Instr.storeAt 26 s2 s12) h3 fun q1 h4 =>
 rop P (Instr.loadAt 26 s2) h4 fun r_1 =>
 K r_1 h4)
 (callM P 70 #[c0_1, (.int .i64 5)] h2 fun s14 h5 =>
 pop P (binA .add 3 (.int .i64 1) s14) fun s15 =>
 callM P 106 #[c0_1, (.int .i64 2)] h5 fun s18 h6 =>
 callM P 135 #[s15, s18] h6 fun s19 h7 =>
 eop P (Instr.alloc 26 true (.tuple #[])) h7 fun g4_1 h8 =>
 uop P (Instr.storeAt 26 g4_1 s19) h8 fun q2 h9 =>
 callM P 70 #[c0_1, (.int .i64 3)] h9 fun s21 h10 =>
 ∃ (I1 : List Value -> Heap -> Prop) (μ_1 : List Value -> Heap -> Nat), I1 [s21] h10 /\
 ∀ (junk1 : Nat -> Value) (k5_1 : Value) (h11 : Heap), I1 [k5_1] h11 ->
 pop P (binA .gtr 3 k5_1 (.int .i64 0)) fun s23 =>
 condM s23
 (callM P 136 #[c0_1, s15] h11 fun s28 h12 =>
 callM P 70 #[c0_1, s15] h12 fun s31 h13 =>
 pop P (binA .add 3 (.int .i64 1) s31) fun s32 =>
 ∃ (I2 : List Value -> Heap -> Prop) (μ_2 : List Value -> Heap -> Nat), I2 [(.int .i64 0)] h13 /\
 ∀ (junk2 : Nat -> Value) (i8_1 : Value) (h14 : Heap), I2 [i8_1] h14 ->
 pop P (binA .lss 3 i8_1 s32) fun s35 =>
 condM s35
 (pop P (Instr.fieldAt 26 g4_1 0) fun s38 =>
 rop P (Instr.loadAt 24 s38) h14 fun s39 =>
 pop P (Instr.indexAt 37 s28 i8_1) fun s42 =>
 rop P (Instr.loadAt 3 s42) h14 fun s43 =>
 pop P (Instr.fieldAt 26 g4_1 0) fun s44 =>
 rop P (Instr.loadAt 24 s44) h14 fun s45 =>
 pop P (Instr.indexAt 37 s28 i8_1) fun s48 =>
 rop P (Instr.loadAt 3 s48) h14 fun s49 =>
 pop P (Instr.indexAt 24 s45 s49) fun s50 =>
 rop P (Instr.loadAt 37 s50) h14 fun s51 =>
 pop P (binA .add 3 i8_1 (.int .i64 1)) fun s54 =>
 pop P (binA .rem 3 s54 s32) fun s56 =>
 pop P (Instr.indexAt 37 s28 s56) fun s57 =>
 rop P (Instr.loadAt 3 s57) h14 fun s58 =>
 eop P (Instr.buildSlice 37 1 #[(0, s58)]) h14 fun s59 h15 =>
 (∀ w : World, w.heap = h15 -> (Instr.loadAt 37 s50).run P w = .ok s51 w) /\
 (∀ w : World, w.heap = h15 -> (Instr.loadAt 3 s48).run P w = .ok s49 w) /\
 (∀ w : World, w.heap = h15 -> (Instr.loadAt 24 s44).run P w = .ok s45 w) /\
 (∀ w : World, w.heap = h15 -> (Instr.loadAt 3 s42).run P w = .ok s43 w) /\
 (∀ w : World, w.heap = h15 -> (Instr.loadAt 24 s38).run P w = .ok s39 w) /\
 eop P (appS 37 37 37 s51 s59) h15 fun s60 h16 =>
 (∀ w : World, w.heap = h16 -> (Instr.loadAt 3 s48).run P w = .ok s49 w) /\
 (∀ w : World, w.heap = h16 -> (Instr.loadAt 24 s44).run P w = .ok s45 w) /\
 (∀ w : World, w.heap = h16 -> (Instr.loadAt 3 s42).run P w = .ok s43 w) /\
 (∀ w : World, w.heap = h16 -> (Instr.loadAt 24 s38).run P w = .ok s39 w) /\
 pop P (Instr.indexAt 24 s39 s43) fun s61 =>
 uop P (Instr.storeAt 37 s61 s60) h16 fun q3 h17 =>
 pop P (binA .add 3 i8_1 (.int .i64 1)) fun s37 =>
 I2 [s37] h17 /\ μ_2 [s37] h17 < μ_2 [i8_1] h14)
 (pop P (binA .sub 3 k5_1 (.int .i64 1)) fun s25 =>
 I1 [s25] h14 /\ μ_1 [s25] h14 < μ_1 [k5_1] h11))
 (rop P (Instr.loadAt 26 g4_1) h11 fun s62 =>
 uop P (Instr.storeAt 26 s2 s62) h11 fun q4 h18 =>
 rop P (Instr.loadAt 26 s2) h18 fun r_2 =>
 K r_2 h18))
theorem e109 (c0_1 : Value) (h : Heap) (K : Value -> Heap -> Prop) : wpA Try.prog 63 (anOf [(250, [5]), (64078, [8])]) (bodyOf Try.f109) 1 (fun A h => resA Try.prog A h K [.cell 2 26]) (fun _ _ _ => False) (fun A h => resA Try.prog A h K [.cell 2 26]) (aargs [c0_1] 0) h = t109 Try.prog c0_1 h K := by kernel_rfl
theorem c109 (c0_1 : Value) (h : Heap) (K : Value -> Heap -> Prop) (H : t109 Try.prog c0_1 h K) : callM Try.prog 109 #[c0_1] h K :=
  callM_of_wpA mixed (fn := Try.f109) Try.func109 (c := bodyOf Try.f109) rfl (of_decide_eq_true (by kernel_rfl)) (anOf [(250, [5]), (64078, [8])]) 62 63 (by kernel_rfl) rfl [.cell 2 26] (by kernel_rfl) (args := [c0_1]) (by rw [e109]; exact H)
def t110 (P : Program) (g0_1 : Value) (p1_1 : Value) (h : Heap) (K : Value -> Heap -> Prop) : Prop :=
 eop P (Instr.box 26 g0_1) h fun g2_1 h1 =>
 eop P (Instr.buildSlice 37 1 #[(0, (.int .i64 (-1)))]) h1 fun s9 h2 =>
 pop P (Instr.fieldAt 26 g2_1 0) fun s10 =>
 rop P (Instr.loadAt 24 s10) h2 fun s11 =>
 pop P (lenS 24 3 s11) fun s12 =>
 callM P 137 #[s9, s12] h2 fun s13 h3 =>
 pop P (Instr.indexAt 37 s13 p1_1) fun s16 =>
 uop P (Instr.storeAt 3 s16 (.int .i64 0)) h3 fun q1 h4 =>
 eop P (Instr.buildSlice 37 1 #[(0, p1_1)]) h4 fun s18 h5 =>
 ∃ (I1 : List Value -> Heap -> Prop) (μ_1 : List Value -> Heap -> Nat), I1 [s18] h5 /\
 ∀ (junk1 : Nat -> Value) (list6_1 : Value) (h6 : Heap), I1 [list6_1] h6 ->
 pop P (lenS 37 3 list6_1) fun s20 =>
 pop P (binA .gtr 3 s20 (.int .i64 0)) fun s21 =>
 condM s21
 (pop P (Instr.fieldAt 26 g2_1 0) fun s24 =>
 rop P (Instr.loadAt 24 s24) h6 fun s25 =>
 pop P (Instr.indexAt 37 list6_1 (.int .i64 0)) fun s27 =>
 rop P (Instr.loadAt 3 s27) h6 fun s28 =>
 pop P (Instr.indexAt 24 s25 s28) fun s29 =>
 rop P (Instr.loadAt 37 s29) h6 fun s30 =>
 pop P (lenS 37 3 s30) fun s31 =>
 ∃ (I2 : List Value -> Heap -> Prop) (μ_2 : List Value -> Heap -> Nat), I2 [list6_1, (.int .i64 0)] h6 /\
 ∀ (junk2 : Nat -> Value) (list6_2 : Value) (s32 : Value) (h7 : Heap), I2 [list6_2, s32] h7 ->
 pop P (binA .lss 3 s32 s31) fun s33 =>
 condM s33
 (pop P (Instr.indexAt 37 s30 s32) fun s34 =>
 rop P (Instr.loadAt 3 s34) h7 fun s35 =>
 pop P (Instr.indexAt 37 s13 s35) fun s38 =>
 rop P (Instr.loadAt 3 s38) h7 fun s39 =>
 pop P (binA .lss 3 s39 (.int .i64 0)) fun s40 =>
 condM s40
 (pop P (Instr.indexAt 37 list6_2 (.int .i64 0)) fun s45 =>
 rop P (Instr.loadAt 3 s45) h7 fun s46 =>
 pop P (Instr.indexAt 37 s13 s46) fun s47 =>
 rop P (Instr.loadAt 3 s47) h7 fun s48 =>
 pop P (binA .add 3 s48 (.int .i64 1)) fun s49 =>
 pop P (Instr.indexAt 37 s13 s35) fun s50 =>
 uop P (Instr.storeAt 3 s50 s49) h7 fun q2 h8 =>
 eop P (Instr.buildSlice 37 1 #[(0, s35)]) h8 fun s53 h9 =>
 eop P (appS 37 37 37 list6_2 s53) h9 fun s54 h10 =>
 pop P (binA .add 3 s32 (.int .i64 1)) fun s55 =>
 I2 [s54, s55] h10 /\ μ_2 [s54, s55] h10 < μ_2 [list6_2, s32] h7)
 (pop P (binA .add 3 s32 (.int .i64 1)) fun s55b =>
 I2 [list6_2, s55b] h7 /\ μ_2 [list6_2, s55b] h7 < μ_2 [list6_2, s32] h7))
 (pop P (Instr.sliceAt 37 list6_2 (some (.int .i64 1)) none none) fun s23 =>
 I1 [s23] h7 /\ μ_1 [s23] h7 < μ_1 [list6_1] h6))
 (K s13 h6)
theorem e110 (g0_1 : Value) (p1_1 : Value) (h : Heap) (K : Value -> Heap -> Prop) : wpA Try.prog 57 (anOf [(122, [6]), (7826, [6, 32])]) (bodyOf Try.f110) 1 (fun A h => resA Try.prog A h K [.tmp 4]) (fun _ _ _ => False) (fun A h => resA Try.prog A h K [.tmp 4]) (aargs [g0_1, p1_1] 0) h = t110 Try.prog g0_1 p1_1 h K := by kernel_rfl
theorem c110 (g0_1 : Value) (p1_1 : Value) (h : Heap) (K : Value -> Heap -> Prop) (H : t110 Try.prog g0_1 p1_1 h K) : callM Try.prog 110 #[g0_1, p1_1] h K :=
  callM_of_wpA mixed (fn := Try.f110) Try.func110 (c := bodyOf Try.f110) rfl (of_decide_eq_true (by kernel_rfl)) (anOf [(122, [6]), (7826, [6, 32])]) 55 57 (by kernel_rfl) rfl [.tmp 4] (by kernel_rfl) (args := [g0_1, p1_1]) (by rw [e110]; exact H)
def t111 (P : Program) (s0 : Value) (h : Heap) (K : Value -> Heap -> Prop) : Prop :=
 K (.int .i64 0) h
theorem e111 (s0 : Value) (h : Heap) (K : Value -> Heap -> Prop) : wpA Try.prog 3 (anOf []) (bodyOf Try.f111) 1 (fun A h => resA Try.prog A h K [.tmp 2]) (fun _ _ _ => False) (fun A h => resA Try.prog A h K [.tmp 2]) (aargs [s0] 0) h = t111 Try.prog s0 h K := by kernel_rfl
theorem c111 (s0 : Value) (h : Heap) (K : Value -> Heap -> Prop) (H : t111 Try.prog s0 h K) : callM Try.prog 111 #[s0] h K :=
  callM_of_wpA mixed (fn := Try.f111) Try.func111 (c := bodyOf Try.f111) rfl (of_decide_eq_true (by kernel_rfl)) (anOf []) 2 3 (by kernel_rfl) rfl [.tmp 2] (by kernel_rfl) (args := [s0]) (by rw [e111]; exact H)
def t112 (P : Program) (a0_1 : Value) (b1_1 : Value) (h : Heap) (K : Value -> Heap -> Prop) : Prop :=
 pop P (Op.unary .neg a0_1) fun s7 =>
 pop P (Builtin.max_ #[3, 3] 3 #[a0_1, s7]) fun s8 =>
 pop P (Op.unary .neg b1_1) fun s11 =>
 pop P (Builtin.max_ #[3, 3] 3 #[b1_1, s11]) fun s12 =>
 ∃ (I1 : List Value -> Heap -> Prop) (μ_1 : List Value -> Heap -> Nat), I1 [s8, s12] h /\
 ∀ (junk1 : Nat -> Value) (a0_2 : Value) (b1_2 : Value) (h1 : Heap), I1 [a0_2, b1_2] h1 ->
 pop P (binE .neq 3 (.tmp 13) (.const (.int .i64 0)) b1_2 (.int .i64 0)) fun s14 =>
 condM s14
 (pop P (binA .rem 3 a0_2 b1_2) fun s18 =>
 I1 [b1_2, s18] h1 /\ μ_1 [b1_2, s18] h1 < μ_1 [a0_2, b1_2] h1)
 (K a0_2 h1)
theorem e112 (a0_1 : Value) (b1_1 : Value) (h : Heap) (K : Value -> Heap -> Prop) : wpA Try.prog 20 (anOf [(28, [0, 1])]) (bodyOf Try.f112) 1 (fun A h => resA Try.prog A h K [.tmp 4]) (fun _ _ _ => False) (fun A h => resA Try.prog A h K [.tmp 4]) (aargs [a0_1, b1_1] 0) h = t112 Try.prog a0_1 b1_1 h K := by kernel_rfl
theorem c112 (a0_1 : Value) (b1_1 : Value) (h : Heap) (K : Value -> Heap -> Prop) (H : t112 Try.prog a0_1 b1_1 h K) : callM Try.prog 112 #[a0_1, b1_1] h K :=
  callM_of_wpA mixed (fn := Try.f112) Try.func112 (c := bodyOf Try.f112) rfl (of_decide_eq_true (by kernel_rfl)) (anOf [(28, [0, 1])]) 18 20 (by kernel_rfl) rfl [.tmp 4] (by kernel_rfl) (args := [a0_1, b1_1]) (by rw [e112]; exact H)
def t113 (P : Program) (g0_1 : Value) (h : Heap) (K : Value -> Heap -> Prop) : Prop :=
 eop P (Instr.box 26 g0_1) h fun g1_1 h1 =>
 pop P (Instr.fieldAt 26 g1_1 0) fun s6 =>
 rop P (Instr.loadAt 24 s6) h1 fun s7 =>
 pop P (lenS 24 3 s7) fun s8 =>
 eop P (Instr.alloc 3 true (.tuple #[])) h1 fun n3_1 h2 =>
 uop P (Instr.storeAt 3 n3_1 s8) h2 fun q1 h3 =>
 rop P (Instr.loadAt 3 n3_1) h3 fun s9 =>
 callM P 71 #[s9, (.int .i64 1), (.int .i64 8)] h3 fun s10 h4 =>
 pop P (Op.unary .not s10) fun s11 =>
 condM s11
 (K (Value.bool false) h4)
 (pop P (Instr.fieldAt 26 g1_1 0) fun s12 =>
 rop P (Instr.loadAt 24 s12) h4 fun s13 =>
 pop P (lenS 24 3 s13) fun s14 =>
 ∃ (I1 : List Value -> Heap -> Prop) (μ_1 : List Value -> Heap -> Nat), I1 [(.int .i64 0)] h4 /\
 ∀ (junk1 : Nat -> Value) (s15 : Value) (h5 : Heap), I1 [s15] h5 ->
 pop P (binA .lss 3 s15 s14) fun s16 =>
 condM s16
 (pop P (Instr.indexAt 24 s13 s15) fun s17 =>
 rop P (Instr.loadAt 37 s17) h5 fun s18 =>
 pop P (lenS 37 3 s18) fun s20 =>
 pop P (binA .gtr 3 s20 (.int .i64 5)) fun s21 =>
 guardM (asG s21 false) false (fun k_1 => k_1 s18 h5) h5 fun s23 h6 =>
 guardM (asG s21 false) false (fun k_2 => pop P (Instr.makeFunc (Fn.func 138) #[] #[n3_1]) fun s24 =>
 k_2 s24 h6) h6 fun s24b h7 =>
 guardM (asG s21 false) false (fun k_3 => callM P 96 #[s23, s24b] h7 fun s25 h8 =>
 k_3 s25 h8) h7 fun s25b h9 =>
 pop P (pickS s21 (Value.bool true) s25b) fun s26 =>
 condM s26
 (K (Value.bool false) h9)
 (pop P (binA .add 3 s15 (.int .i64 1)) fun s27 =>
 I1 [s27] h9 /\ μ_1 [s27] h9 < μ_1 [s15] h5))
 (K (Value.bool true) h5))
theorem e113 (g0_1 : Value) (h : Heap) (K : Value -> Heap -> Prop) : wpA Try.prog 28 (anOf [(122, [15])]) (bodyOf Try.f113) 1 (fun A h => resA Try.prog A h K [.tmp 2]) (fun _ _ _ => False) (fun A h => resA Try.prog A h K [.tmp 2]) (aargs [g0_1] 0) h = t113 Try.prog g0_1 h K := by kernel_rfl
theorem c113 (g0_1 : Value) (h : Heap) (K : Value -> Heap -> Prop) (H : t113 Try.prog g0_1 h K) : callM Try.prog 113 #[g0_1] h K :=
  callM_of_wpA mixed (fn := Try.f113) Try.func113 (c := bodyOf Try.f113) rfl (of_decide_eq_true (by kernel_rfl)) (anOf [(122, [15])]) 27 28 (by kernel_rfl) rfl [.tmp 2] (by kernel_rfl) (args := [g0_1]) (by rw [e113]; exact H)
def t114 (P : Program) (p0_1 : Value) (s1 : Value) (h : Heap) (K : Value -> Heap -> Prop) : Prop :=
 pop P (Instr.fieldAt 26 s1 0) fun s5 =>
 rop P (Instr.loadAt 24 s5) h fun s6 =>
 pop P (lenS 24 3 s6) fun s7 =>
 pop P (binA .sub 3 s7 (.int .i64 1)) fun s8 =>
 callM P 71 #[p0_1, (.int .i64 0), s8] h fun s9 h1 =>
 pop P (Op.unary .not s9) fun s10 =>
 K s10 h1
theorem e114 (p0_1 : Value) (s1 : Value) (h : Heap) (K : Value -> Heap -> Prop) : wpA Try.prog 11 (anOf []) (bodyOf Try.f114) 1 (fun A h => resA Try.prog A h K [.tmp 3]) (fun _ _ _ => False) (fun A h => resA Try.prog A h K [.tmp 3]) (aargs [p0_1, s1] 0) h = t114 Try.prog p0_1 s1 h K := by kernel_rfl
theorem c114 (p0_1 : Value) (s1 : Value) (h : Heap) (K : Value -> Heap -> Prop) (H : t114 Try.prog p0_1 s1 h K) : callM Try.prog 114 #[p0_1, s1] h K :=
  callM_of_wpA mixed (fn := Try.f114) Try.func114 (c := bodyOf Try.f114) rfl (of_decide_eq_true (by kernel_rfl)) (anOf []) 9 11 (by kernel_rfl) rfl [.tmp 3] (by kernel_rfl) (args := [p0_1, s1]) (by rw [e114]; exact H)
def t115 (P : Program) (g0_1 : Value) (p1_1 : Value) (h : Heap) (K : Value -> Heap -> Prop) : Prop :=
 eop P (Instr.box 26 g0_1) h fun g2_1 h1 =>
 pop P (Instr.fieldAt 26 g2_1 0) fun s11 =>
 rop P (Instr.loadAt 24 s11) h1 fun s12 =>
 pop P (lenS 24 3 s12) fun s13 =>
 eop P (Instr.makeSlice 37 s13 s13) h1 fun s14 h2 =>
 pop P (lenS 37 3 s14) fun s16 =>
 ∃ (I1 : List Value -> Heap -> Prop) (μ_1 : List Value -> Heap -> Nat), I1 [(.int .i64 0)] h2 /\
 ∀ (junk1 : Nat -> Value) (s17 : Value) (h3 : Heap), I1 [s17] h3 ->
 pop P (binA .lss 3 s17 s16) fun s18 =>
 condM s18
 (pop P (Instr.indexAt 37 s14 s17) fun s22 =>
 uop P (Instr.storeAt 3 s22 (.int .i64 (-1))) h3 fun q1 h4 =>
 pop P (binA .add 3 s17 (.int .i64 1)) fun s23 =>
 I1 [s23] h4 /\ μ_1 [s23] h4 < μ_1 [s17] h3)
 (pop P (Instr.indexAt 37 s14 p1_1) fun s26 =>
 uop P (Instr.storeAt 3 s26 (.int .i64 0)) h3 fun q2 h5 =>
 eop P (Instr.buildSlice 37 1 #[(0, p1_1)]) h5 fun s28 h6 =>
 ∃ (I2 : List Value -> Heap -> Prop) (μ_2 : List Value -> Heap -> Nat), I2 [s28, (.int .i64 0)] h6 /\
 ∀ (junk2 : Nat -> Value) (queue7_1 : Value) (k8_1 : Value) (h7 : Heap), I2 [queue7_1, k8_1] h7 ->
 pop P (lenS 37 3 queue7_1) fun s31 =>
 pop P (binA .lss 3 k8_1 s31) fun s32 =>
 condM s32
 (pop P (Instr.fieldAt 26 g2_1 0) fun s35 =>
 rop P (Instr.loadAt 24 s35) h7 fun s36 =>
 pop P (Instr.indexAt 37 queue7_1 k8_1) fun s39 =>
 rop P (Instr.loadAt 3 s39) h7 fun s40 =>
 pop P (Instr.indexAt 24 s36 s40) fun s41 =>
 rop P (Instr.loadAt 37 s41) h7 fun s42 =>
 pop P (lenS 37 3 s42) fun s43 =>
 ∃ (I3 : List Value -> Heap -> Prop) (μ_3 : List Value -> Heap -> Nat), I3 [queue7_1, (.int .i64 0)] h7 /\
 ∀ (junk3 : Nat -> Value) (queue7_2 : Value) (s44 : Value) (h8 : Heap), I3 [queue7_2, s44] h8 ->
 pop P (binA .lss 3 s44 s43) fun s45 =>
 condM s45
 (pop P (Instr.indexAt 37 s42 s44) fun s46 =>
 rop P (Instr.loadAt 3 s46) h8 fun s47 =>
 pop P (Instr.indexAt 37 s14 s47) fun s50 =>
 rop P (Instr.loadAt 3 s50) h8 fun s51 =>
 pop P (binA .lss 3 s51 (.int .i64 0)) fun s52 =>
 condM s52
 (pop P (Instr.indexAt 37 queue7_2 k8_1) fun s58 =>
 rop P (Instr.loadAt 3 s58) h8 fun s59 =>
 pop P (Instr.indexAt 37 s14 s59) fun s60 =>
 rop P (Instr.loadAt 3 s60) h8 fun s61 =>
 pop P (binA .add 3 s61 (.int .i64 1)) fun s62 =>
 pop P (Instr.indexAt 37 s14 s47) fun s63 =>
 uop P (Instr.storeAt 3 s63 s62) h8 fun q3 h9 =>
 eop P (Instr.buildSlice 37 1 #[(0, s47)]) h9 fun s66 h10 =>
 eop P (appS 37 37 37 queue7_2 s66) h10 fun s67 h11 =>
 pop P (binA .add 3 s44 (.int .i64 1)) fun s68 =>
 I3 [s67, s68] h11 /\ μ_3 [s67, s68] h11 < μ_3 [queue7_2, s44] h8)
 (pop P (binA .add 3 s44 (.int .i64 1)) fun s68b =>
 I3 [queue7_2, s68b] h8 /\ μ_3 [queue7_2, s68b] h8 < μ_3 [queue7_2, s44] h8))
 (pop P (binA .add 3 k8_1 (.int .i64 1)) fun s34 =>
 I2 [queue7_2, s34] h8 /\ μ_2 [queue7_2, s34] h8 < μ_2 [queue7_1, k8_1] h7))
 (K s14 h7))
theorem e115 (g0_1 : Value) (p1_1 : Value) (h : Heap) (K : Value -> Heap -> Prop) : wpA Try.prog 70 (anOf [(58, [17]), (506, [7, 8]), (32402, [7, 44])]) (bodyOf Try.f115) 1 (fun A h => resA Try.prog A h K [.tmp 4]) (fun _ _ _ => False) (fun A h => resA Try.prog A h K [.tmp 4]) (aargs [g0_1, p1_1] 0) h = t115 Try.prog g0_1 p1_1 h K := by kernel_rfl
theorem c115 (g0_1 : Value) (p1_1 : Value) (h : Heap) (K : Value -> Heap -> Prop) (H : t115 Try.prog g0_1 p1_1 h K) : callM Try.prog 115 #[g0_1, p1_1] h K :=
  callM_of_wpA mixed (fn := Try.f115) Try.func115 (c := bodyOf Try.f115) rfl (of_decide_eq_true (by kernel_rfl)) (anOf [(58, [17]), (506, [7, 8]), (32402, [7, 44])]) 68 70 (by kernel_rfl) rfl [.tmp 4] (by kernel_rfl) (args := [g0_1, p1_1]) (by rw [e115]; exact H)
def t116 (P : Program) (s0_1 : Value) (v1_1 : Value) (h : Heap) (K : Value -> Heap -> Prop) : Prop :=
 pop P (lenS 37 3 s0_1) fun s7 =>
 ∃ (I1 : List Value -> Heap -> Prop) (μ_1 : List Value -> Heap -> Nat), I1 [(.int .i64 0)] h /\
 ∀ (junk1 : Nat -> Value) (s8 : Value) (h1 : Heap), I1 [s8] h1 ->
 pop P (binA .lss 3 s8 s7) fun s9 =>
 condM s9
 (pop P (Instr.indexAt 37 s0_1 s8) fun s14 =>
 rop P (Instr.loadAt 3 s14) h1 fun s15 =>
 pop P (binE .eql 3 (.tmp 11) (.tmp 15) v1_1 s15) fun s16 =>
 condM s16
 (K s8 h1)
 (pop P (binA .add 3 s8 (.int .i64 1)) fun s18 =>
 I1 [s18] h1 /\ μ_1 [s18] h1 < μ_1 [s8] h1))
 (K (.int .i64 (-1)) h1)
theorem e116 (s0_1 : Value) (v1_1 : Value) (h : Heap) (K : Value -> Heap -> Prop) : wpA Try.prog 19 (anOf [(26, [8])]) (bodyOf Try.f116) 1 (fun A h => resA Try.prog A h K [.tmp 4]) (fun _ _ _ => False) (fun A h => resA Try.prog A h K [.tmp 4]) (aargs [s0_1, v1_1] 0) h = t116 Try.prog s0_1 v1_1 h K := by kernel_rfl
theorem c116 (s0_1 : Value) (v1_1 : Value) (h : Heap) (K : Value -> Heap -> Prop) (H : t116 Try.prog s0_1 v1_1 h K) : callM Try.prog 116 #[s0_1, v1_1] h K :=
  callM_of_wpA mixed (fn := Try.f116) Try.func116 (c := bodyOf Try.f116) rfl (of_decide_eq_true (by kernel_rfl)) (anOf [(26, [8])]) 17 19 (by kernel_rfl) rfl [.tmp 4] (by kernel_rfl) (args := [s0_1, v1_1]) (by rw [e116]; exact H)
def t117 (P : Program) (s0_1 : Value) (h : Heap) (K : Value -> Heap -> Prop) : Prop :=
 pop P (binE .eql 37 (.tmp 3) (.const (Value.slice none 0 0)) s0_1 (Value.slice none 0 0)) fun s4 =>
 condM s4
 (K (Value.slice none 0 0) h)
 (eop P (Instr.buildSlice 37 0 #[]) h fun s5 h1 =>
 eop P (appS 37 37 37 s5 s0_1) h1 fun s7 h2 =>
 K s7 h2)
theorem e117 (s0_1 : Value) (h : Heap) (K : Value -> Heap -> Prop) : wpA Try.prog 8 (anOf []) (bodyOf Try.f117) 1 (fun A h => resA Try.prog A h K [.tmp 2]) (fun _ _ _ => False) (fun A h => resA Try.prog A h K [.tmp 2]) (aargs [s0_1] 0) h = t117 Try.prog s0_1 h K := by kernel_rfl
theorem c117 (s0_1 : Value) (h : Heap) (K : Value -> Heap -> Prop) (H : t117 Try.prog s0_1 h K) : callM Try.prog 117 #[s0_1] h K :=
  callM_of_wpA mixed (fn := Try.f117) Try.func117 (c := bodyOf Try.f117) rfl (of_decide_eq_true (by kernel_rfl)) (anOf []) 7 8 (by kernel_rfl) rfl [.tmp 2] (by kernel_rfl) (args := [s0_1]) (by rw [e117]; exact H)
def t118 (P : Program) (c0_1 : Value) (most1_1 : Value) (h : Heap) (K : Value -> Heap -> Prop) : Prop :=
 eop P (Instr.alloc 26 true (.tuple #[])) h fun s4 h1 =>
 callM P 70 #[c0_1, most1_1] h1 fun s13 h2 =>
 pop P (binA .add 3 (.int .i64 1) s13) fun s14 =>
 callM P 106 #[c0_1, (.int .i64 4)] h2 fun s16 h3 =>
 condM s16
 (callM P 106 #[c0_1, (.int .i64 2)] h3 fun s19 h4 =>
 callM P 135 #[s14, s19] h4 fun s20 h5 =>
 uop P (Instr.storeAt 26 s4 s20) h5 fun q1 h6 =>
 rop P (Instr.loadAt 26 s4) h6 fun r_1 =>
 K r_1 h6)
 (pop P (Instr.build 26 #[]) fun s21 =>
 eop P (Instr.alloc 26 true (.tuple #[])) h3 fun g6_1 h7 =>
 uop P (Instr.storeAt 26 g6_1 s21) h7 fun q2 h8 =>
 ∃ (I1 : List Value -> Heap -> Prop) (μ_1 : List Value -> Heap -> Nat), I1 [(.int .i64 0)] h8 /\
 ∀ (junk1 : Nat -> Value) (p7_1 : Value) (h9 : Heap), I1 [p7_1] h9 ->
 pop P (binA .lss 3 p7_1 s14) fun s24 =>
 condM s24
 (callM P 70 #[c0_1, (.int .i64 3)] h9 fun s28 h10 =>
 pop P (binA .add 3 (.int .i64 1) s28) fun s29 =>
 ∃ (I2 : List Value -> Heap -> Prop) (μ_2 : List Value -> Heap -> Nat), I2 [(Value.slice none 0 0), s29] h10 /\
 ∀ (junk2 : Nat -> Value) (list8_1 : Value) (k9_1 : Value) (h11 : Heap), I2 [list8_1, k9_1] h11 ->
 pop P (binA .gtr 3 k9_1 (.int .i64 0)) fun s31 =>
 condM s31
 (callM P 70 #[c0_1, s14] h11 fun s37 h12 =>
 eop P (Instr.buildSlice 37 1 #[(0, s37)]) h12 fun s38 h13 =>
 eop P (appS 37 37 37 list8_1 s38) h13 fun s39 h14 =>
 pop P (binA .sub 3 k9_1 (.int .i64 1)) fun s33 =>
 I2 [s39, s33] h14 /\ μ_2 [s39, s33] h14 < μ_2 [list8_1, k9_1] h11)
 (∃ J1 : List Value -> Heap -> Prop, (callM P 106 #[c0_1, (.int .i64 8)] h11 fun s41 h15 =>
 condM s41
 (J1 [(Value.slice none 0 0)] h15)
 (J1 [list8_1] h15)) /\
 ∀ (junk3 : Nat -> Value) (list8_2 : Value) (h16 : Heap), J1 [list8_2] h16 ->
 pop P (Instr.fieldAt 26 g6_1 0) fun s42 =>
 rop P (Instr.loadAt 24 s42) h16 fun s43 =>
 eop P (Instr.buildSlice 24 1 #[(0, list8_2)]) h16 fun s45 h17 =>
 eop P (appS 24 24 24 s43 s45) h17 fun s46 h18 =>
 pop P (Instr.fieldAt 26 g6_1 0) fun s47 =>
 uop P (Instr.storeAt 24 s47 s46) h18 fun q3 h19 =>
 pop P (binA .add 3 p7_1 (.int .i64 1)) fun s26 =>
 I1 [s26] h19 /\ μ_1 [s26] h19 < μ_1 [p7_1] h9))
 (callM P 106 #[c0_1, (.int .i64 2)] h9 fun s49 h20 =>
 condM s49
 (pop P (Instr.fieldAt 26 g6_1 0) fun s50 =>
 rop P (Instr.loadAt 24 s50) h20 fun s51 =>
 pop P (lenS 24 3 s51) fun s52 =>
 ∃ (I3 : List Value -> Heap -> Prop) (μ_3 : List Value -> Heap -> Nat), I3 [(.int .i64 0)] h20 /\
 ∀ (junk4 : Nat -> Value) (s53 : Value) (h21 : Heap), I3 [s53] h21 ->
 pop P (binA .lss 3 s53 s52) fun s54 =>
 condM s54
 (pop P (Instr.fieldAt 26 g6_1 0) fun s56 =>
 rop P (Instr.loadAt 24 s56) h21 fun s57 =>
 pop P (Instr.fieldAt 26 g6_1 0) fun s59 =>
 rop P (Instr.loadAt 24 s59) h21 fun s60 =>
 pop P (Instr.indexAt 24 s60 s53) fun s62 =>
 rop P (Instr.loadAt 37 s62) h21 fun s63 =>
 pop P (binA .add 3 s53 (.int .i64 1)) fun s65 =>
 pop P (binA .rem 3 s65 s14) fun s67 =>
 eop P (Instr.buildSlice 37 1 #[(0, s67)]) h21 fun s68 h22 =>
 (∀ w : World, w.heap = h22 -> (Instr.loadAt 37 s62).run P w = .ok s63 w) /\
 (∀ w : World, w.heap = h22 -> (Instr.loadAt 24 s59).run P w = .ok s60 w) /\
 (∀ w : World, w.heap = h22 -> (Instr.loadAt 24 s56).run P w = .ok s57 w) /\
 eop P (appS 37 37 37 s63 s68) h22 fun s69 h23 =>
 (∀ w : World, w.heap = h23 -> (Instr.loadAt 24 s59).run P w = .ok s60 w) /\
 (∀ w : World, w.heap = h23 -> (Instr.loadAt 24 s56).run P w = .ok s57 w) /\
 pop P (Instr.indexAt 24 s57 s53) fun s70 =>
 uop P (Instr.storeAt 37 s70 s69) h23 fun q4 h24 =>
 pop P (binA .add 3 s53 (.int .i64 1)) fun s71 =>
 I3 [s71] h24 /\ μ_3 [s71] h24 < μ_3 [s53] h21)
 (rop P (Instr.loadAt 26 g6_1) h21 fun s72 =>
 uop P (Instr.storeAt 26 s4 s72) h21 fun q5 h25 =>
 rop P (Instr.loadAt 26 s4) h25 fun r_2 =>
 K r_2 h25))
 (rop P (Instr.loadAt 26 g6_1) h20 fun s72b =>
 uop P (Instr.storeAt 26 s4 s72b) h20 fun q6 h26 =>
 rop P (Instr.loadAt 26 s4) h26 fun r_3 =>
 K r_3 h26)))
theorem e118 (c0_1 : Value) (most1_1 : Value) (h : Heap) (K : Value -> Heap -> Prop) : wpA Try.prog 73 (anOf [(250, [7]), (2026, [53]), (16019, [8]), (64074, [8, 9])]) (bodyOf Try.f118) 1 (fun A h => resA Try.prog A h K [.cell 4 26]) (fun _ _ _ => False) (fun A h => resA Try.prog A h K [.cell 4 26]) (aargs [c0_1, most1_1] 0) h = t118 Try.prog c0_1 most1_1 h K := by kernel_rfl
theorem c118 (c0_1 : Value) (most1_1 : Value) (h : Heap) (K : Value -> Heap -> Prop) (H : t118 Try.prog c0_1 most1_1 h K) : callM Try.prog 118 #[c0_1, most1_1] h K :=
  callM_of_wpA mixed (fn := Try.f118) Try.func118 (c := bodyOf Try.f118) rfl (of_decide_eq_true (by kernel_rfl)) (anOf [(250, [7]), (2026, [53]), (16019, [8]), (64074, [8, 9])]) 71 73 (by kernel_rfl) rfl [.cell 4 26] (by kernel_rfl) (args := [c0_1, most1_1]) (by rw [e118]; exact H)
def t119 (P : Program) (c0_1 : Value) (h : Heap) (K : Value -> Heap -> Prop) : Prop :=
 ∃ J1 : List Value -> Heap -> Prop, (pop P (nilS c0_1) fun s5 =>
 pop P (Instr.fieldAt 69 s5 1) fun s6 =>
 rop P (Instr.loadAt 3 s6) h fun s7 =>
 pop P (nilS c0_1) fun s9 =>
 pop P (Instr.fieldAt 69 s9 0) fun s10 =>
 rop P (Instr.loadAt 22 s10) h fun s11 =>
 pop P (lenS 22 3 s11) fun s12 =>
 pop P (binA .lss 3 s7 s12) fun s13 =>
 condM s13
 (pop P (nilS c0_1) fun s15 =>
 pop P (Instr.fieldAt 69 s15 0) fun s16 =>
 rop P (Instr.loadAt 22 s16) h fun s17 =>
 pop P (nilS c0_1) fun s19 =>
 pop P (Instr.fieldAt 69 s19 1) fun s20 =>
 rop P (Instr.loadAt 3 s20) h fun s21 =>
 pop P (Instr.indexAt 22 s17 s21) fun s22 =>
 rop P (Instr.loadAt 5 s22) h fun s23 =>
 rop P (convert 5 3 s23) h fun s24 =>
 J1 [s24] h)
 (J1 [(.int .i64 0)] h)) /\
 ∀ (junk1 : Nat -> Value) (b3_1 : Value) (h1 : Heap), J1 [b3_1] h1 ->
 pop P (nilS c0_1) fun s26 =>
 pop P (Instr.fieldAt 69 s26 1) fun s27 =>
 rop P (Instr.loadAt 3 s27) h1 fun s28 =>
 pop P (binA .add 3 s28 (.int .i64 1)) fun s29 =>
 pop P (nilS c0_1) fun s30 =>
 pop P (Instr.fieldAt 69 s30 1) fun s31 =>
 uop P (Instr.storeAt 3 s31 s29) h1 fun q1 h2 =>
 pop P (nilS c0_1) fun s34 =>
 pop P (Instr.fieldAt 69 s34 2) fun s35 =>
 rop P (Instr.loadAt 67 s35) h2 fun s36 =>
 pop P (binA .mul 67 s36 (Value.int IntKind.u64 6364136223846793005)) fun s37 =>
 rop P (convert 3 67 b3_1) h2 fun s39 =>
 pop P (binA .add 67 s37 s39) fun s40 =>
 pop P (binA .add 67 s40 (Value.int IntKind.u64 1442695040888963407)) fun s41 =>
 pop P (nilS c0_1) fun s42 =>
 pop P (Instr.fieldAt 69 s42 2) fun s43 =>
 uop P (Instr.storeAt 67 s43 s41) h2 fun q2 h3 =>
 pop P (nilS c0_1) fun s45 =>
 pop P (Instr.fieldAt 69 s45 1) fun s46 =>
 rop P (Instr.loadAt 3 s46) h3 fun s47 =>
 pop P (nilS c0_1) fun s49 =>
 pop P (Instr.fieldAt 69 s49 0) fun s50 =>
 rop P (Instr.loadAt 22 s50) h3 fun s51 =>
 pop P (lenS 22 3 s51) fun s52 =>
 pop P (binA .leq 3 s47 s52) fun s53 =>
 condM s53
 (K b3_1 h3)
 (pop P (nilS c0_1) fun s56 =>
 pop P (Instr.fieldAt 69 s56 2) fun s57 =>
 rop P (Instr.loadAt 67 s57) h3 fun s58 =>
 pop P (binA .shr 67 s58 (Value.int IntKind.u64 40)) fun s59 =>
 pop P (binA .and 67 s59 (Value.int IntKind.u64 255)) fun s60 =>
 rop P (convert 67 3 s60) h3 fun s61 =>
 K s61 h3)
theorem e119 (c0_1 : Value) (h : Heap) (K : Value -> Heap -> Prop) : wpA Try.prog 62 (anOf [(7, [3])]) (bodyOf Try.f119) 1 (fun A h => resA Try.prog A h K [.tmp 2]) (fun _ _ _ => False) (fun A h => resA Try.prog A h K [.tmp 2]) (aargs [c0_1] 0) h = t119 Try.prog c0_1 h K := by kernel_rfl
theorem c119 (c0_1 : Value) (h : Heap) (K : Value -> Heap -> Prop) (H : t119 Try.prog c0_1 h K) : callM Try.prog 119 #[c0_1] h K :=
  callM_of_wpA mixed (fn := Try.f119) Try.func119 (c := bodyOf Try.f119) rfl (of_decide_eq_true (by kernel_rfl)) (anOf [(7, [3])]) 61 62 (by kernel_rfl) rfl [.tmp 2] (by kernel_rfl) (args := [c0_1]) (by rw [e119]; exact H)
def t120 (P : Program) (g0_1 : Value) (h : Heap) (K : Value -> Heap -> Prop) : Prop :=
 eop P (Instr.box 26 g0_1) h fun g1_1 h1 =>
 pop P (Instr.fieldAt 26 g1_1 0) fun s6 =>
 rop P (Instr.loadAt 24 s6) h1 fun s7 =>
 pop P (lenS 24 3 s7) fun s8 =>
 callM P 73 #[s8, (.int .i64 1), (.int .i64 8)] h1 fun s10 h2 =>
 pop P (Op.unary .not s10) fun s11 =>
 condM s11
 (K (Value.bool false) h2)
 (pop P (Instr.fieldAt 26 g1_1 0) fun s12 =>
 rop P (Instr.loadAt 24 s12) h2 fun s13 =>
 pop P (lenS 24 3 s13) fun s14 =>
 ∃ (I1 : List Value -> Heap -> Prop) (μ_1 : List Value -> Heap -> Nat), I1 [(.int .i64 0)] h2 /\
 ∀ (junk1 : Nat -> Value) (s15 : Value) (h3 : Heap), I1 [s15] h3 ->
 pop P (binA .lss 3 s15 s14) fun s16 =>
 condM s16
 (pop P (Instr.indexAt 24 s13 s15) fun s17 =>
 rop P (Instr.loadAt 37 s17) h3 fun s18 =>
 pop P (lenS 37 3 s18) fun s20 =>
 pop P (binA .gtr 3 s20 (.int .i64 5)) fun s21 =>
 guardM (asG s21 false) false (fun k_1 => k_1 s18 h3) h3 fun s23 h4 =>
 guardM (asG s21 false) false (fun k_2 => k_2 s8 h4) h4 fun s24 h5 =>
 guardM (asG s21 false) false (fun k_3 => pop P (binA .sub 3 s24 (.int .i64 1)) fun s25 =>
 k_3 s25 h5) h5 fun s25b h6 =>
 guardM (asG s21 false) false (fun k_4 => callM P 108 #[s23, (.int .i64 0), s25b] h6 fun s26 h7 =>
 k_4 s26 h7) h6 fun s26b h8 =>
 guardM (asG s21 false) false (fun k_5 => pop P (Op.unary .not s26b) fun s27 =>
 k_5 s27 h8) h8 fun s27b h9 =>
 pop P (pickS s21 (Value.bool true) s27b) fun s28 =>
 condM s28
 (K (Value.bool false) h9)
 (pop P (binA .add 3 s15 (.int .i64 1)) fun s29 =>
 I1 [s29] h9 /\ μ_1 [s29] h9 < μ_1 [s15] h3))
 (K (Value.bool true) h3))
theorem e120 (g0_1 : Value) (h : Heap) (K : Value -> Heap -> Prop) : wpA Try.prog 30 (anOf [(122, [15])]) (bodyOf Try.f120) 1 (fun A h => resA Try.prog A h K [.tmp 2]) (fun _ _ _ => False) (fun A h => resA Try.prog A h K [.tmp 2]) (aargs [g0_1] 0) h = t120 Try.prog g0_1 h K := by kernel_rfl
theorem c120 (g0_1 : Value) (h : Heap) (K : Value -> Heap -> Prop) (H : t120 Try.prog g0_1 h K) : callM Try.prog 120 #[g0_1] h K :=
  callM_of_wpA mixed (fn := Try.f120) Try.func120 (c := bodyOf Try.f120) rfl (of_decide_eq_true (by kernel_rfl)) (anOf [(122, [15])]) 29 30 (by kernel_rfl) rfl [.tmp 2] (by kernel_rfl) (args := [g0_1]) (by rw [e120]; exact H)
def t121 (P : Program) (l0_1 : Value) (h : Heap) (K : Value -> Heap -> Prop) : Prop :=
 eop P (Instr.buildSlice 37 0 #[]) h fun s3 h1 =>
 eop P (appS 37 37 37 s3 l0_1) h1 fun s5 h2 =>
 K s5 h2
theorem e121 (l0_1 : Value) (h : Heap) (K : Value -> Heap -> Prop) : wpA Try.prog 6 (anOf []) (bodyOf Try.f121) 1 (fun A h => resA Try.prog A h K [.tmp 2]) (fun _ _ _ => False) (fun A h => resA Try.prog A h K [.tmp 2]) (aargs [l0_1] 0) h = t121 Try.prog l0_1 h K := by kernel_rfl
theorem c121 (l0_1 : Value) (h : Heap) (K : Value -> Heap -> Prop) (H : t121 Try.prog l0_1 h K) : callM Try.prog 121 #[l0_1] h K :=
  callM_of_wpA mixed (fn := Try.f121) Try.func121 (c := bodyOf Try.f121) rfl (of_decide_eq_true (by kernel_rfl)) (anOf []) 5 6 (by kernel_rfl) rfl [.tmp 2] (by kernel_rfl) (args := [l0_1]) (by rw [e121]; exact H)
def t122 (P : Program) (c0_1 : Value) (g1_1 : Value) (h : Heap) (K : Value -> Heap -> Prop) : Prop :=
 eop P (Instr.box 26 g1_1) h fun g3_1 h1 =>
 eop P (Instr.alloc 114 true (.tuple #[])) h1 fun s4 h2 =>
 pop P (Instr.fieldAt 26 g3_1 0) fun s10 =>
 rop P (Instr.loadAt 24 s10) h2 fun s11 =>
 pop P (lenS 24 3 s11) fun s12 =>
 callM P 70 #[c0_1, s12] h2 fun s13 h3 =>
 pop P (Instr.build 114 #[(1, s13)]) fun s14 =>
 eop P (Instr.alloc 114 true (.tuple #[])) h3 fun w5_1 h4 =>
 uop P (Instr.storeAt 114 w5_1 s14) h4 fun q1 h5 =>
 pop P (Instr.fieldAt 26 g3_1 0) fun s15 =>
 rop P (Instr.loadAt 24 s15) h5 fun s16 =>
 pop P (lenS 24 3 s16) fun s17 =>
 ∃ (I1 : List Value -> Heap -> Prop) (μ_1 : List Value -> Heap -> Nat), I1 [(.int .i64 0)] h5 /\
 ∀ (junk1 : Nat -> Value) (s18 : Value) (h6 : Heap), I1 [s18] h6 ->
 pop P (binA .lss 3 s18 s17) fun s19 =>
 condM s19
 (pop P (Instr.indexAt 24 s16 s18) fun s20 =>
 rop P (Instr.loadAt 37 s20) h6 fun s21 =>
 ∃ J1 : List Value -> Heap -> Prop, (pop P (lenS 37 3 s21) fun s23 =>
 pop P (binA .gtr 3 s23 (.int .i64 0)) fun s24 =>
 condM s24
 (pop P (lenS 37 3 s21) fun s27 =>
 callM P 70 #[c0_1, s27] h6 fun s28 h7 =>
 J1 [s28] h7)
 (J1 [(.int .i64 0)] h6)) /\
 ∀ (junk2 : Nat -> Value) (k8_1 : Value) (h8 : Heap), J1 [k8_1] h8 ->
 pop P (Instr.fieldAt 114 w5_1 0) fun s29 =>
 rop P (Instr.loadAt 37 s29) h8 fun s30 =>
 eop P (Instr.buildSlice 37 1 #[(0, k8_1)]) h8 fun s32 h9 =>
 eop P (appS 37 37 37 s30 s32) h9 fun s33 h10 =>
 pop P (Instr.fieldAt 114 w5_1 0) fun s34 =>
 uop P (Instr.storeAt 37 s34 s33) h10 fun q2 h11 =>
 pop P (binA .add 3 s18 (.int .i64 1)) fun s35 =>
 I1 [s35] h11 /\ μ_1 [s35] h11 < μ_1 [s18] h6)
 (rop P (Instr.loadAt 114 w5_1) h6 fun s36 =>
 uop P (Instr.storeAt 114 s4 s36) h6 fun q3 h12 =>
 rop P (Instr.loadAt 114 s4) h12 fun r_1 =>
 K r_1 h12)
theorem e122 (c0_1 : Value) (g1_1 : Value) (h : Heap) (K : Value -> Heap -> Prop) : wpA Try.prog 37 (anOf [(58, [18]), (7475, [8])]) (bodyOf Try.f122) 1 (fun A h => resA Try.prog A h K [.cell 4 114]) (fun _ _ _ => False) (fun A h => resA Try.prog A h K [.cell 4 114]) (aargs [c0_1, g1_1] 0) h = t122 Try.prog c0_1 g1_1 h K := by kernel_rfl
theorem c122 (c0_1 : Value) (g1_1 : Value) (h : Heap) (K : Value -> Heap -> Prop) (H : t122 Try.prog c0_1 g1_1 h K) : callM Try.prog 122 #[c0_1, g1_1] h K :=
  callM_of_wpA mixed (fn := Try.f122) Try.func122 (c := bodyOf Try.f122) rfl (of_decide_eq_true (by kernel_rfl)) (anOf [(58, [18]), (7475, [8])]) 35 37 (by kernel_rfl) rfl [.cell 4 114] (by kernel_rfl) (args := [c0_1, g1_1]) (by rw [e122]; exact H)
def t123 (P : Program) (g0_1 : Value) (rotors1_1 : Value) (h : Heap) (K : Value -> Heap -> Prop) : Prop :=
 eop P (Instr.box 26 g0_1) h fun g2_1 h1 =>
 rop P (Instr.loadAt 26 g2_1) h1 fun s5 =>
 pop P (Instr.build 114 #[(0, rotors1_1), (1, (.int .i64 0))]) fun s7 =>
 callM P 139 #[s5, s7] h1 fun s8 h2 =>
 K s8 h2
theorem e123 (g0_1 : Value) (rotors1_1 : Value) (h : Heap) (K : Value -> Heap -> Prop) : wpA Try.prog 9 (anOf []) (bodyOf Try.f123) 1 (fun A h => resA Try.prog A h K [.tmp 4]) (fun _ _ _ => False) (fun A h => resA Try.prog A h K [.tmp 4]) (aargs [g0_1, rotors1_1] 0) h = t123 Try.prog g0_1 rotors1_1 h K := by kernel_rfl
theorem c123 (g0_1 : Value) (rotors1_1 : Value) (h : Heap) (K : Value -> Heap -> Prop) (H : t123 Try.prog g0_1 rotors1_1 h K) : callM Try.prog 123 #[g0_1, rotors1_1] h K :=
  callM_of_wpA mixed (fn := Try.f123) Try.func123 (c := bodyOf Try.f123) rfl (of_decide_eq_true (by kernel_rfl)) (anOf []) 7 9 (by kernel_rfl) rfl [.tmp 4] (by kernel_rfl) (args := [g0_1, rotors1_1]) (by rw [e123]; exact H)
def t124 (P : Program) (g0_1 : Value) (w1_1 : Value) (h : Heap) (K : Value -> Heap -> Prop) : Prop :=
 eop P (Instr.box 26 g0_1) h fun g2_1 h1 =>
 pop P (Instr.fieldAt 26 g2_1 0) fun s6 =>
 rop P (Instr.loadAt 24 s6) h1 fun s7 =>
 pop P (nilS w1_1) fun s9 =>
 pop P (Instr.fieldAt 114 s9 1) fun s10 =>
 rop P (Instr.loadAt 3 s10) h1 fun s11 =>
 pop P (Instr.indexAt 24 s7 s11) fun s12 =>
 rop P (Instr.loadAt 37 s12) h1 fun s13 =>
 pop P (lenS 37 3 s13) fun s15 =>
 pop P (binE .eql 3 (.tmp 15) (.const (.int .i64 0)) s15 (.int .i64 0)) fun s16 =>
 condM s16
 (K (Value.bool false) h1)
 (pop P (nilS w1_1) fun s18 =>
 pop P (Instr.fieldAt 114 s18 0) fun s19 =>
 rop P (Instr.loadAt 37 s19) h1 fun s20 =>
 pop P (nilS w1_1) fun s22 =>
 pop P (Instr.fieldAt 114 s22 1) fun s23 =>
 rop P (Instr.loadAt 3 s23) h1 fun s24 =>
 pop P (nilS w1_1) fun s26 =>
 pop P (Instr.fieldAt 114 s26 0) fun s27 =>
 rop P (Instr.loadAt 37 s27) h1 fun s28 =>
 pop P (nilS w1_1) fun s30 =>
 pop P (Instr.fieldAt 114 s30 1) fun s31 =>
 rop P (Instr.loadAt 3 s31) h1 fun s32 =>
 pop P (Instr.indexAt 37 s28 s32) fun s33 =>
 rop P (Instr.loadAt 3 s33) h1 fun s34 =>
 pop P (binA .add 3 s34 (.int .i64 1)) fun s35 =>
 pop P (lenS 37 3 s13) fun s37 =>
 pop P (binA .rem 3 s35 s37) fun s38 =>
 pop P (Instr.indexAt 37 s20 s24) fun s39 =>
 uop P (Instr.storeAt 3 s39 s38) h1 fun q1 h2 =>
 pop P (nilS w1_1) fun s43 =>
 pop P (Instr.fieldAt 114 s43 0) fun s44 =>
 rop P (Instr.loadAt 37 s44) h2 fun s45 =>
 pop P (nilS w1_1) fun s47 =>
 pop P (Instr.fieldAt 114 s47 1) fun s48 =>
 rop P (Instr.loadAt 3 s48) h2 fun s49 =>
 pop P (Instr.indexAt 37 s45 s49) fun s50 =>
 rop P (Instr.loadAt 3 s50) h2 fun s51 =>
 pop P (Instr.indexAt 37 s13 s51) fun s52 =>
 rop P (Instr.loadAt 3 s52) h2 fun s53 =>
 pop P (nilS w1_1) fun s54 =>
 pop P (Instr.fieldAt 114 s54 1) fun s55 =>
 uop P (Instr.storeAt 3 s55 s53) h2 fun q2 h3 =>
 K (Value.bool true) h3)
theorem e124 (g0_1 : Value) (w1_1 : Value) (h : Heap) (K : Value -> Heap -> Prop) : wpA Try.prog 56 (anOf []) (bodyOf Try.f124) 1 (fun A h => resA Try.prog A h K [.tmp 4]) (fun _ _ _ => False) (fun A h => resA Try.prog A h K [.tmp 4]) (aargs [g0_1, w1_1] 0) h = t124 Try.prog g0_1 w1_1 h K := by kernel_rfl
theorem c124 (g0_1 : Value) (w1_1 : Value) (h : Heap) (K : Value -> Heap -> Prop) (H : t124 Try.prog g0_1 w1_1 h K) : callM Try.prog 124 #[g0_1, w1_1] h K :=
  callM_of_wpA mixed (fn := Try.f124) Try.func124 (c := bodyOf Try.f124) rfl (of_decide_eq_true (by kernel_rfl)) (anOf []) 54 56 (by kernel_rfl) rfl [.tmp 4] (by kernel_rfl) (args := [g0_1, w1_1]) (by rw [e124]; exact H)
def t125 (P : Program) (g0_1 : Value) (w1_1 : Value) (h : Heap) (K : Value -> Heap -> Prop) : Prop :=
 eop P (Instr.box 26 g0_1) h fun g2_1 h1 =>
 eop P (Instr.box 114 w1_1) h1 fun w3_1 h2 =>
 rop P (Instr.loadAt 26 g2_1) h2 fun s7 =>
 pop P (Instr.fieldAt 114 w3_1 1) fun s8 =>
 rop P (Instr.loadAt 3 s8) h2 fun s9 =>
 callM P 72 #[s7, s9] h2 fun s10 h3 =>
 pop P (Op.unary .not s10) fun s11 =>
 guardM (asG s11 false) false (fun k_1 => pop P (Instr.fieldAt 114 w3_1 0) fun s13 =>
 k_1 s13 h3) h3 fun s13b h4 =>
 guardM (asG s11 false) false (fun k_2 => rop P (Instr.loadAt 37 s13b) h4 fun s14 =>
 k_2 s14 h4) h4 fun s14b h5 =>
 guardM (asG s11 false) false (fun k_3 => pop P (lenS 37 3 s14b) fun s15 =>
 k_3 s15 h5) h5 fun s15b h6 =>
 guardM (asG s11 false) false (fun k_4 => pop P (Instr.fieldAt 26 g2_1 0) fun s16 =>
 k_4 s16 h6) h6 fun s16b h7 =>
 guardM (asG s11 false) false (fun k_5 => rop P (Instr.loadAt 24 s16b) h7 fun s17 =>
 k_5 s17 h7) h7 fun s17b h8 =>
 guardM (asG s11 false) false (fun k_6 => pop P (lenS 24 3 s17b) fun s18 =>
 k_6 s18 h8) h8 fun s18b h9 =>
 guardM (asG s11 false) false (fun k_7 => pop P (binE .neq 3 (.tmp 15) (.tmp 18) s15b s18b) fun s19 =>
 k_7 s19 h9) h9 fun s19b h10 =>
 pop P (pickS s11 (Value.bool true) s19b) fun s20 =>
 condM s20
 (K (Value.bool false) h10)
 (pop P (Instr.fieldAt 26 g2_1 0) fun s21 =>
 rop P (Instr.loadAt 24 s21) h10 fun s22 =>
 pop P (lenS 24 3 s22) fun s23 =>
 ∃ (I1 : List Value -> Heap -> Prop) (μ_1 : List Value -> Heap -> Nat), I1 [(.int .i64 0)] h10 /\
 ∀ (junk1 : Nat -> Value) (s24 : Value) (h11 : Heap), I1 [s24] h11 ->
 pop P (binA .lss 3 s24 s23) fun s25 =>
 condM s25
 (pop P (Instr.indexAt 24 s22 s24) fun s27 =>
 rop P (Instr.loadAt 37 s27) h11 fun s28 =>
 pop P (Instr.fieldAt 114 w3_1 0) fun s29 =>
 rop P (Instr.loadAt 37 s29) h11 fun s30 =>
 pop P (Instr.indexAt 37 s30 s24) fun s32 =>
 rop P (Instr.loadAt 3 s32) h11 fun s33 =>
 pop P (lenS 37 3 s28) fun s35 =>
 pop P (binA .sub 3 s35 (.int .i64 1)) fun s36 =>
 callM P 126 #[(.int .i64 0), s36] h11 fun s37 h12 =>
 (∀ w : World, w.heap = h12 -> (Instr.loadAt 3 s32).run P w = .ok s33 w) /\
 (∀ w : World, w.heap = h12 -> (Instr.loadAt 37 s29).run P w = .ok s30 w) /\
 callM P 73 #[s33, (.int .i64 0), s37] h12 fun s38 h13 =>
 (∀ w : World, w.heap = h13 -> (Instr.loadAt 37 s29).run P w = .ok s30 w) /\
 pop P (Op.unary .not s38) fun s39 =>
 condM s39
 (K (Value.bool false) h13)
 (pop P (binA .add 3 s24 (.int .i64 1)) fun s40 =>
 I1 [s40] h13 /\ μ_1 [s40] h13 < μ_1 [s24] h11))
 (K (Value.bool true) h11))
theorem e125 (g0_1 : Value) (w1_1 : Value) (h : Heap) (K : Value -> Heap -> Prop) : wpA Try.prog 41 (anOf [(58, [24])]) (bodyOf Try.f125) 1 (fun A h => resA Try.prog A h K [.tmp 4]) (fun _ _ _ => False) (fun A h => resA Try.prog A h K [.tmp 4]) (aargs [g0_1, w1_1] 0) h = t125 Try.prog g0_1 w1_1 h K := by kernel_rfl
theorem c125 (g0_1 : Value) (w1_1 : Value) (h : Heap) (K : Value -> Heap -> Prop) (H : t125 Try.prog g0_1 w1_1 h K) : callM Try.prog 125 #[g0_1, w1_1] h K :=
  callM_of_wpA mixed (fn := Try.f125) Try.func125 (c := bodyOf Try.f125) rfl (of_decide_eq_true (by kernel_rfl)) (anOf [(58, [24])]) 39 41 (by kernel_rfl) rfl [.tmp 4] (by kernel_rfl) (args := [g0_1, w1_1]) (by rw [e125]; exact H)
def t126 (P : Program) (a0_1 : Value) (b1_1 : Value) (h : Heap) (K : Value -> Heap -> Prop) : Prop :=
 pop P (binA .gtr 3 a0_1 b1_1) fun s7 =>
 condM s7
 (K a0_1 h)
 (K b1_1 h)
theorem e126 (a0_1 : Value) (b1_1 : Value) (h : Heap) (K : Value -> Heap -> Prop) : wpA Try.prog 10 (anOf []) (bodyOf Try.f126) 1 (fun A h => resA Try.prog A h K [.tmp 4]) (fun _ _ _ => False) (fun A h => resA Try.prog A h K [.tmp 4]) (aargs [a0_1, b1_1] 0) h = t126 Try.prog a0_1 b1_1 h K := by kernel_rfl
theorem c126 (a0_1 : Value) (b1_1 : Value) (h : Heap) (K : Value -> Heap -> Prop) (H : t126 Try.prog a0_1 b1_1 h K) : callM Try.prog 126 #[a0_1, b1_1] h K :=
  callM_of_wpA mixed (fn := Try.f126) Try.func126 (c := bodyOf Try.f126) rfl (of_decide_eq_true (by kernel_rfl)) (anOf []) 8 10 (by kernel_rfl) rfl [.tmp 4] (by kernel_rfl) (args := [a0_1, b1_1]) (by rw [e126]; exact H)
def t132 (P : Program) (s0_1 : Value) (f1_1 : Value) (h : Heap) (K : Value -> Heap -> Prop) : Prop :=
 pop P (lenS 37 3 s0_1) fun s7 =>
 ∃ (I1 : List Value -> Heap -> Prop) (μ_1 : List Value -> Heap -> Nat), I1 [(.int .i64 0)] h /\
 ∀ (junk1 : Nat -> Value) (s8 : Value) (h1 : Heap), I1 [s8] h1 ->
 pop P (binA .lss 3 s8 s7) fun s9 =>
 condM s9
 (pop P (Instr.indexAt 37 s0_1 s8) fun s14 =>
 rop P (Instr.loadAt 3 s14) h1 fun s15 =>
 callV P f1_1 [s15] h1 fun s16 h2 =>
 condM s16
 (K s8 h2)
 (pop P (binA .add 3 s8 (.int .i64 1)) fun s18 =>
 I1 [s18] h2 /\ μ_1 [s18] h2 < μ_1 [s8] h1))
 (K (.int .i64 (-1)) h1)
theorem e132 (s0_1 : Value) (f1_1 : Value) (h : Heap) (K : Value -> Heap -> Prop) : wpA Try.prog 19 (anOf [(26, [8])]) (bodyOf Try.f132) 1 (fun A h => resA Try.prog A h K [.tmp 4]) (fun _ _ _ => False) (fun A h => resA Try.prog A h K [.tmp 4]) (aargs [s0_1, f1_1] 0) h = t132 Try.prog s0_1 f1_1 h K := by kernel_rfl
theorem c132 (s0_1 : Value) (f1_1 : Value) (h : Heap) (K : Value -> Heap -> Prop) (H : t132 Try.prog s0_1 f1_1 h K) : callM Try.prog 132 #[s0_1, f1_1] h K :=
  callM_of_wpA mixed (fn := Try.f132) Try.func132 (c := bodyOf Try.f132) rfl (of_decide_eq_true (by kernel_rfl)) (anOf [(26, [8])]) 17 19 (by kernel_rfl) rfl [.tmp 4] (by kernel_rfl) (args := [s0_1, f1_1]) (by rw [e132]; exact H)
def t135 (P : Program) (n0_1 : Value) (both1_1 : Value) (h : Heap) (K : Value -> Heap -> Prop) : Prop :=
 eop P (Instr.alloc 26 true (.tuple #[])) h fun s4 h1 =>
 pop P (Instr.build 26 #[]) fun s8 =>
 eop P (Instr.alloc 26 true (.tuple #[])) h1 fun g5_1 h2 =>
 uop P (Instr.storeAt 26 g5_1 s8) h2 fun q1 h3 =>
 ∃ (I1 : List Value -> Heap -> Prop) (μ_1 : List Value -> Heap -> Nat), I1 [(.int .i64 0)] h3 /\
 ∀ (junk1 : Nat -> Value) (p6_1 : Value) (h4 : Heap), I1 [p6_1] h4 ->
 pop P (binA .lss 3 p6_1 n0_1) fun s11 =>
 condM s11
 (pop P (binA .add 3 p6_1 (.int .i64 1)) fun s15 =>
 pop P (binA .rem 3 s15 n0_1) fun s17 =>
 eop P (Instr.buildSlice 37 1 #[(0, s17)]) h4 fun s18 h5 =>
 ∃ J1 : List Value -> Heap -> Prop, (condM both1_1
 (pop P (binA .add 3 p6_1 n0_1) fun s23 =>
 pop P (binA .sub 3 s23 (.int .i64 1)) fun s24 =>
 pop P (binA .rem 3 s24 n0_1) fun s26 =>
 eop P (Instr.buildSlice 37 1 #[(0, s26)]) h5 fun s27 h6 =>
 eop P (appS 37 37 37 s18 s27) h6 fun s28 h7 =>
 J1 [s28] h7)
 (J1 [s18] h5)) /\
 ∀ (junk2 : Nat -> Value) (list7_1 : Value) (h8 : Heap), J1 [list7_1] h8 ->
 pop P (Instr.fieldAt 26 g5_1 0) fun s29 =>
 rop P (Instr.loadAt 24 s29) h8 fun s30 =>
 eop P (Instr.buildSlice 24 1 #[(0, list7_1)]) h8 fun s32 h9 =>
 eop P (appS 24 24 24 s30 s32) h9 fun s33 h10 =>
 pop P (Instr.fieldAt 26 g5_1 0) fun s34 =>
 uop P (Instr.storeAt 24 s34 s33) h10 fun q2 h11 =>
 pop P (binA .add 3 p6_1 (.int .i64 1)) fun s13 =>
 I1 [s13] h11 /\ μ_1 [s13] h11 < μ_1 [p6_1] h4)
 (rop P (Instr.loadAt 26 g5_1) h4 fun s35 =>
 uop P (Instr.storeAt 26 s4 s35) h4 fun q3 h12 =>
 rop P (Instr.loadAt 26 s4) h12 fun r_1 =>
 K r_1 h12)
theorem e135 (n0_1 : Value) (both1_1 : Value) (h : Heap) (K : Value -> Heap -> Prop) : wpA Try.prog 36 (anOf [(58, [6]), (1865, [7])]) (bodyOf Try.f135) 1 (fun A h => resA Try.prog A h K [.cell 4 26]) (fun _ _ _ => False) (fun A h => resA Try.prog A h K [.cell 4 26]) (aargs [n0_1, both1_1] 0) h = t135 Try.prog n0_1 both1_1 h K := by kernel_rfl
theorem c135 (n0_1 : Value) (both1_1 : Value) (h : Heap) (K : Value -> Heap -> Prop) (H : t135 Try.prog n0_1 both1_1 h K) : callM Try.prog 135 #[n0_1, both1_1] h K :=
  callM_of_wpA mixed (fn := Try.f135) Try.func135 (c := bodyOf Try.f135) rfl (of_decide_eq_true (by kernel_rfl)) (anOf [(58, [6]), (1865, [7])]) 34 36 (by kernel_rfl) rfl [.cell 4 26] (by kernel_rfl) (args := [n0_1, both1_1]) (by rw [e135]; exact H)
def t136 (P : Program) (c0_1 : Value) (n1_1 : Value) (h : Heap) (K : Value -> Heap -> Prop) : Prop :=
 ∃ (I1 : List Value -> Heap -> Prop) (μ_1 : List Value -> Heap -> Nat), I1 [(Value.slice none 0 0), (.int .i64 0)] h /\
 ∀ (junk1 : Nat -> Value) (out5_1 : Value) (p6_1 : Value) (h1 : Heap), I1 [out5_1, p6_1] h1 ->
 pop P (binA .lss 3 p6_1 n1_1) fun s12 =>
 condM s12
 (eop P (Instr.buildSlice 37 1 #[(0, p6_1)]) h1 fun s17 h2 =>
 eop P (appS 37 37 37 out5_1 s17) h2 fun s18 h3 =>
 pop P (binA .add 3 p6_1 (.int .i64 1)) fun s14 =>
 I1 [s18, s14] h3 /\ μ_1 [s18, s14] h3 < μ_1 [out5_1, p6_1] h1)
 (pop P (lenS 37 3 out5_1) fun s20 =>
 ∃ (I2 : List Value -> Heap -> Prop) (μ_2 : List Value -> Heap -> Nat), I2 [(.int .i64 0)] h1 /\
 ∀ (junk2 : Nat -> Value) (s21 : Value) (h4 : Heap), I2 [s21] h4 ->
 pop P (binA .lss 3 s21 s20) fun s22 =>
 condM s22
 (callM P 70 #[c0_1, n1_1] h4 fun s26 h5 =>
 pop P (Instr.indexAt 37 out5_1 s21) fun s29 =>
 rop P (Instr.loadAt 3 s29) h5 fun s30 =>
 pop P (Instr.indexAt 37 out5_1 s26) fun s35 =>
 rop P (Instr.loadAt 3 s35) h5 fun s36 =>
 pop P (Instr.indexAt 37 out5_1 s21) fun s37 =>
 uop P (Instr.storeAt 3 s37 s36) h5 fun q1 h6 =>
 pop P (Instr.indexAt 37 out5_1 s26) fun s41 =>
 uop P (Instr.storeAt 3 s41 s30) h6 fun q2 h7 =>
 pop P (binA .add 3 s21 (.int .i64 1)) fun s42 =>
 I2 [s42] h7 /\ μ_2 [s42] h7 < μ_2 [s21] h4)
 (K out5_1 h4))
theorem e136 (c0_1 : Value) (n1_1 : Value) (h : Heap) (K : Value -> Heap -> Prop) : wpA Try.prog 44 (anOf [(58, [5, 6]), (122, [21])]) (bodyOf Try.f136) 1 (fun A h => resA Try.prog A h K [.tmp 4]) (fun _ _ _ => False) (fun A h => resA Try.prog A h K [.tmp 4]) (aargs [c0_1, n1_1] 0) h = t136 Try.prog c0_1 n1_1 h K := by kernel_rfl
theorem c136 (c0_1 : Value) (n1_1 : Value) (h : Heap) (K : Value -> Heap -> Prop) (H : t136 Try.prog c0_1 n1_1 h K) : callM Try.prog 136 #[c0_1, n1_1] h K :=
  callM_of_wpA mixed (fn := Try.f136) Try.func136 (c := bodyOf Try.f136) rfl (of_decide_eq_true (by kernel_rfl)) (anOf [(58, [5, 6]), (122, [21])]) 42 44 (by kernel_rfl) rfl [.tmp 4] (by kernel_rfl) (args := [c0_1, n1_1]) (by rw [e136]; exact H)
def t137 (P : Program) (x0_1 : Value) (count1_1 : Value) (h : Heap) (K : Value -> Heap -> Prop) : Prop :=
 ∃ J1 : List Value -> Heap -> Prop, (pop P (binA .lss 3 count1_1 (.int .i64 0)) fun s10 =>
 condM s10
 (pop P (Instr.makeInterface 9 (Value.string { data := #[99, 97, 110, 110, 111, 116, 32, 98, 101, 32, 110, 101, 103, 97, 116, 105, 118, 101] })) fun s11 =>
 False)
 (J1 [] h)) /\
 ∀ (junk1 : Nat -> Value) (h1 : Heap), J1 [] h1 ->
 pop P (lenS 37 3 x0_1) fun s14 =>
 rop P (convert 3 132 s14) h1 fun s15 =>
 rop P (convert 3 132 count1_1) h1 fun s17 =>
 callM P 141 #[s15, s17] h1 fun s18 h2 =>
 pop P (Instr.extract s18 0) fun s19 =>
 pop P (Instr.extract s18 1) fun s20 =>
 ∃ J2 : List Value -> Heap -> Prop, (pop P (binA .gtr 132 s19 (Value.int IntKind.u64 0)) fun s22 =>
 guardM (asG s22 false) false (fun k_1 => k_1 s20 h2) h2 fun s24 h3 =>
 guardM (asG s22 false) false (fun k_2 => pop P (binA .gtr 132 s24 (Value.int IntKind.u64 9223372036854775807)) fun s25 =>
 k_2 s25 h3) h3 fun s25b h4 =>
 pop P (pickS s22 (Value.bool true) s25b) fun s26 =>
 condM s26
 (pop P (Instr.makeInterface 9 (Value.string { data := #[116, 104, 101, 32, 114, 101, 115, 117, 108, 116, 32, 111, 102, 32, 40, 108, 101, 110, 40, 120, 41, 32, 42, 32, 99, 111, 117, 110, 116, 41, 32, 111, 118, 101, 114, 102, 108, 111, 119, 115] })) fun s27 =>
 False)
 (J2 [] h4)) /\
 ∀ (junk2 : Nat -> Value) (h5 : Heap), J2 [] h5 ->
 rop P (convert 132 3 s20) h5 fun s29 =>
 eop P (Instr.makeSlice 37 s29 s29) h5 fun s30 h6 =>
 eop P (Builtin.copy_ #[37, 37] 3 #[s30, x0_1]) h6 fun s33 h7 =>
 ∃ (I1 : List Value -> Heap -> Prop) (μ_1 : List Value -> Heap -> Nat), I1 [s33] h7 /\
 ∀ (junk3 : Nat -> Value) (n8_1 : Value) (h8 : Heap), I1 [n8_1] h8 ->
 pop P (lenS 37 3 s30) fun s36 =>
 pop P (binA .lss 3 n8_1 s36) fun s37 =>
 condM s37
 (pop P (Instr.sliceAt 37 s30 (some n8_1) none none) fun s41 =>
 pop P (Instr.sliceAt 37 s30 none (some n8_1) none) fun s44 =>
 eop P (Builtin.copy_ #[37, 37] 3 #[s41, s44]) h8 fun s45 h9 =>
 pop P (binA .add 3 n8_1 s45) fun s46 =>
 I1 [s46] h9 /\ μ_1 [s46] h9 < μ_1 [n8_1] h8)
 (K s30 h8)
theorem e137 (x0_1 : Value) (count1_1 : Value) (h : Heap) (K : Value -> Heap -> Prop) : wpA Try.prog 48 (anOf [(3, []), (15, []), (508, [8])]) (bodyOf Try.f137) 1 (fun A h => resA Try.prog A h K [.tmp 4]) (fun _ _ _ => False) (fun A h => resA Try.prog A h K [.tmp 4]) (aargs [x0_1, count1_1] 0) h = t137 Try.prog x0_1 count1_1 h K := by kernel_rfl
theorem c137 (x0_1 : Value) (count1_1 : Value) (h : Heap) (K : Value -> Heap -> Prop) (H : t137 Try.prog x0_1 count1_1 h K) : callM Try.prog 137 #[x0_1, count1_1] h K :=
  callM_of_wpA mixed (fn := Try.f137) Try.func137 (c := bodyOf Try.f137) rfl (of_decide_eq_true (by kernel_rfl)) (anOf [(3, []), (15, []), (508, [8])]) 46 48 (by kernel_rfl) rfl [.tmp 4] (by kernel_rfl) (args := [x0_1, count1_1]) (by rw [e137]; exact H)
def t138 (P : Program) (q0_1 : Value) (s1 : Value) (h : Heap) (K : Value -> Heap -> Prop) : Prop :=
 rop P (Instr.loadAt 3 s1) h fun s5 =>
 pop P (binA .sub 3 s5 (.int .i64 1)) fun s6 =>
 callM P 71 #[q0_1, (.int .i64 0), s6] h fun s7 h1 =>
 pop P (Op.unary .not s7) fun s8 =>
 K s8 h1
theorem e138 (q0_1 : Value) (s1 : Value) (h : Heap) (K : Value -> Heap -> Prop) : wpA Try.prog 9 (anOf []) (bodyOf Try.f138) 1 (fun A h => resA Try.prog A h K [.tmp 3]) (fun _ _ _ => False) (fun A h => resA Try.prog A h K [.tmp 3]) (aargs [q0_1, s1] 0) h = t138 Try.prog q0_1 s1 h K := by kernel_rfl
theorem c138 (q0_1 : Value) (s1 : Value) (h : Heap) (K : Value -> Heap -> Prop) (H : t138 Try.prog q0_1 s1 h K) : callM Try.prog 138 #[q0_1, s1] h K :=
  callM_of_wpA mixed (fn := Try.f138) Try.func138 (c := bodyOf Try.f138) rfl (of_decide_eq_true (by kernel_rfl)) (anOf []) 7 9 (by kernel_rfl) rfl [.tmp 3] (by kernel_rfl) (args := [q0_1, s1]) (by rw [e138]; exact H)
def t139 (P : Program) (g0_1 : Value) (w1_1 : Value) (h : Heap) (K : Value -> Heap -> Prop) : Prop :=
 eop P (Instr.box 26 g0_1) h fun g2_1 h1 =>
 eop P (Instr.box 114 w1_1) h1 fun w3_1 h2 =>
 rop P (Instr.loadAt 26 g2_1) h2 fun s7 =>
 pop P (Instr.fieldAt 114 w3_1 1) fun s8 =>
 rop P (Instr.loadAt 3 s8) h2 fun s9 =>
 eop P (Instr.buildSlice 37 1 #[(0, s9)]) h2 fun s10 h3 =>
 callM P 63 #[s7, s10] h3 fun s11 h4 =>
 pop P (Op.unary .not s11) fun s12 =>
 guardM (asG s12 false) false (fun k_1 => pop P (Instr.fieldAt 114 w3_1 0) fun s14 =>
 k_1 s14 h4) h4 fun s14b h5 =>
 guardM (asG s12 false) false (fun k_2 => rop P (Instr.loadAt 37 s14b) h5 fun s15 =>
 k_2 s15 h5) h5 fun s15b h6 =>
 guardM (asG s12 false) false (fun k_3 => pop P (lenS 37 3 s15b) fun s16 =>
 k_3 s16 h6) h6 fun s16b h7 =>
 guardM (asG s12 false) false (fun k_4 => pop P (Instr.fieldAt 26 g2_1 0) fun s17 =>
 k_4 s17 h7) h7 fun s17b h8 =>
 guardM (asG s12 false) false (fun k_5 => rop P (Instr.loadAt 24 s17b) h8 fun s18 =>
 k_5 s18 h8) h8 fun s18b h9 =>
 guardM (asG s12 false) false (fun k_6 => pop P (lenS 24 3 s18b) fun s19 =>
 k_6 s19 h9) h9 fun s19b h10 =>
 guardM (asG s12 false) false (fun k_7 => pop P (binE .neq 3 (.tmp 16) (.tmp 19) s16b s19b) fun s20 =>
 k_7 s20 h10) h10 fun s20b h11 =>
 pop P (pickS s12 (Value.bool true) s20b) fun s21 =>
 condM s21
 (K (Value.bool false) h11)
 (pop P (Instr.fieldAt 114 w3_1 0) fun s22 =>
 rop P (Instr.loadAt 37 s22) h11 fun s23 =>
 pop P (lenS 37 3 s23) fun s24 =>
 ∃ (I1 : List Value -> Heap -> Prop) (μ_1 : List Value -> Heap -> Nat), I1 [(.int .i64 0)] h11 /\
 ∀ (junk1 : Nat -> Value) (s25 : Value) (h12 : Heap), I1 [s25] h12 ->
 pop P (binA .lss 3 s25 s24) fun s26 =>
 condM s26
 (pop P (Instr.indexAt 37 s23 s25) fun s28 =>
 rop P (Instr.loadAt 3 s28) h12 fun s29 =>
 pop P (Instr.fieldAt 26 g2_1 0) fun s31 =>
 rop P (Instr.loadAt 24 s31) h12 fun s32 =>
 pop P (Instr.indexAt 24 s32 s25) fun s34 =>
 rop P (Instr.loadAt 37 s34) h12 fun s35 =>
 pop P (lenS 37 3 s35) fun s36 =>
 pop P (binA .sub 3 s36 (.int .i64 1)) fun s37 =>
 pop P (Builtin.max_ #[3, 3] 3 #[s37, (.int .i64 0)]) fun s38 =>
 callM P 71 #[s29, (.int .i64 0), s38] h12 fun s39 h13 =>
 pop P (Op.unary .not s39) fun s40 =>
 condM s40
 (K (Value.bool false) h13)
 (pop P (binA .add 3 s25 (.int .i64 1)) fun s41 =>
 I1 [s41] h13 /\ μ_1 [s41] h13 < μ_1 [s25] h12))
 (K (Value.bool true) h12))
theorem e139 (g0_1 : Value) (w1_1 : Value) (h : Heap) (K : Value -> Heap -> Prop) : wpA Try.prog 42 (anOf [(58, [25])]) (bodyOf Try.f139) 1 (fun A h => resA Try.prog A h K [.tmp 4]) (fun _ _ _ => False) (fun A h => resA Try.prog A h K [.tmp 4]) (aargs [g0_1, w1_1] 0) h = t139 Try.prog g0_1 w1_1 h K := by kernel_rfl
theorem c139 (g0_1 : Value) (w1_1 : Value) (h : Heap) (K : Value -> Heap -> Prop) (H : t139 Try.prog g0_1 w1_1 h K) : callM Try.prog 139 #[g0_1, w1_1] h K :=
  callM_of_wpA mixed (fn := Try.f139) Try.func139 (c := bodyOf Try.f139) rfl (of_decide_eq_true (by kernel_rfl)) (anOf [(58, [25])]) 40 42 (by kernel_rfl) rfl [.tmp 4] (by kernel_rfl) (args := [g0_1, w1_1]) (by rw [e139]; exact H)
def t141 (P : Program) (x0_1 : Value) (y1_1 : Value) (h : Heap) (K : Value -> Heap -> Prop) : Prop :=
 condM (Value.bool false)
 (rop P (convert 132 135 x0_1) h fun s12 =>
 rop P (convert 132 135 y1_1) h fun s14 =>
 callM P 142 #[s12, s14] h fun s15 h1 =>
 pop P (Instr.extract s15 0) fun s16 =>
 pop P (Instr.extract s15 1) fun s17 =>
 rop P (convert 135 132 s16) h1 fun s19 =>
 rop P (convert 135 132 s17) h1 fun s21 =>
 K (.tuple #[s19, s21]) h1)
 (callM P 143 #[x0_1, y1_1] h fun s25 h2 =>
 pop P (Instr.extract s25 0) fun s26 =>
 pop P (Instr.extract s25 1) fun s27 =>
 K (.tuple #[s26, s27]) h2)
theorem e141 (x0_1 : Value) (y1_1 : Value) (h : Heap) (K : Value -> Heap -> Prop) : wpA Try.prog 30 (anOf []) (bodyOf Try.f141) 1 (fun A h => resA Try.prog A h K [.tmp 4, .tmp 5]) (fun _ _ _ => False) (fun A h => resA Try.prog A h K [.tmp 4, .tmp 5]) (aargs [x0_1, y1_1] 0) h = t141 Try.prog x0_1 y1_1 h K := by kernel_rfl
theorem c141 (x0_1 : Value) (y1_1 : Value) (h : Heap) (K : Value -> Heap -> Prop) (H : t141 Try.prog x0_1 y1_1 h K) : callM Try.prog 141 #[x0_1, y1_1] h K :=
  callM_of_wpA mixed (fn := Try.f141) Try.func141 (c := bodyOf Try.f141) rfl (of_decide_eq_true (by kernel_rfl)) (anOf []) 28 30 (by kernel_rfl) rfl [.tmp 4, .tmp 5] (by kernel_rfl) (args := [x0_1, y1_1]) (by rw [e141]; exact H)
def t143 (P : Program) (x0_1 : Value) (y1_1 : Value) (h : Heap) (K : Value -> Heap -> Prop) : Prop :=
 pop P (binA .and 67 x0_1 (Value.int IntKind.u64 4294967295)) fun s15 =>
 pop P (binA .shr 67 x0_1 (Value.int IntKind.u64 32)) fun s17 =>
 pop P (binA .and 67 y1_1 (Value.int IntKind.u64 4294967295)) fun s19 =>
 pop P (binA .shr 67 y1_1 (Value.int IntKind.u64 32)) fun s21 =>
 pop P (binA .mul 67 s15 s19) fun s24 =>
 pop P (binA .mul 67 s17 s19) fun s27 =>
 pop P (binA .shr 67 s24 (Value.int IntKind.u64 32)) fun s29 =>
 pop P (binA .add 67 s27 s29) fun s30 =>
 pop P (binA .and 67 s30 (Value.int IntKind.u64 4294967295)) fun s32 =>
 pop P (binA .shr 67 s30 (Value.int IntKind.u64 32)) fun s34 =>
 pop P (binA .mul 67 s15 s21) fun s38 =>
 pop P (binA .add 67 s32 s38) fun s39 =>
 pop P (binA .mul 67 s17 s21) fun s42 =>
 pop P (binA .add 67 s42 s34) fun s44 =>
 pop P (binA .shr 67 s39 (Value.int IntKind.u64 32)) fun s46 =>
 pop P (binA .add 67 s44 s46) fun s47 =>
 pop P (binA .mul 67 x0_1 y1_1) fun s50 =>
 K (.tuple #[s47, s50]) h
theorem e143 (x0_1 : Value) (y1_1 : Value) (h : Heap) (K : Value -> Heap -> Prop) : wpA Try.prog 51 (anOf []) (bodyOf Try.f143) 1 (fun A h => resA Try.prog A h K [.tmp 4, .tmp 5]) (fun _ _ _ => False) (fun A h => resA Try.prog A h K [.tmp 4, .tmp 5]) (aargs [x0_1, y1_1] 0) h = t143 Try.prog x0_1 y1_1 h K := by kernel_rfl
theorem c143 (x0_1 : Value) (y1_1 : Value) (h : Heap) (K : Value -> Heap -> Prop) (H : t143 Try.prog x0_1 y1_1 h K) : callM Try.prog 143 #[x0_1, y1_1] h K :=
  callM_of_wpA mixed (fn := Try.f143) Try.func143 (c := bodyOf Try.f143) rfl (of_decide_eq_true (by kernel_rfl)) (anOf []) 49 51 (by kernel_rfl) rfl [.tmp 4, .tmp 5] (by kernel_rfl) (args := [x0_1, y1_1]) (by rw [e143]; exact H)
end Go.Proofs.Ytgiamamfnpklkaa
