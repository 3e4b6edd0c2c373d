import Derived.Test.YtkjkfjkapbpgiaaGreatProg
import Derived.Test.YtkjkfjkapbpgiaaGreatM1
set_option linter.unusedVariables false
namespace Go.Proofs.YtkjkfjkapbpgiaaGreat
open Go Go.Mx
abbrev KQ := Value -> Heap -> Prop
open Go.Instr (loadAt extract buildSlice)
theorem mixed : Tryz.prog.follows .mixedOrders = true := by kernel_rfl
def t4 (P : Program) (z0 : Value) (m1 : Value) (h : Heap) (K : KQ) : Prop :=
 callM P 5 #[z0, m1] h fun s66 h1 =>
 condM s66
 (K (Value.bool true) h1)
 (callM P 26 #[z0] h1 fun s69 h2 =>
 pop P (extract s69 0) fun s70 =>
 pop P (extract s69 1) fun s71 =>
 eop P (Instr.alloc 26 true (.tuple #[])) h2 fun g5 h3 =>
 eop P (Instr.alloc 48 true (.tuple #[])) h3 fun w6 h4 =>
 uop P (Instr.storeAt 26 g5 s70) h4 fun q1 h5 =>
 uop P (Instr.storeAt 48 w6 s71) h5 fun q2 h6 =>
 rop P (loadAt 26 g5) h6 fun s73 =>
 rop P (loadAt 48 w6) h6 fun s74 =>
 callM P 27 #[s73, s74] h6 fun s75 h7 =>
 pop P (extract s75 0) fun s76 =>
 pop P (extract s75 1) fun s77 =>
 rop P (loadAt 26 g5) h7 fun s79 =>
 rop P (loadAt 48 w6) h7 fun s80 =>
 callM P 28 #[s79, s80] h7 fun s81 h8 =>
 pop P (extract s81 0) fun s82 =>
 pop P (extract s81 1) fun s83 =>
 rop P (loadAt 26 g5) h8 fun s85 =>
 rop P (loadAt 48 w6) h8 fun s86 =>
 callM P 29 #[s85, s86] h8 fun s87 h9 =>
 pop P (extract s87 0) fun s88 =>
 pop P (extract s87 1) fun s89 =>
 rop P (loadAt 26 g5) h9 fun s91 =>
 rop P (loadAt 48 w6) h9 fun s92 =>
 callM P 30 #[s91, s92] h9 fun s93 h10 =>
 pop P (extract s93 0) fun s94 =>
 pop P (extract s93 1) fun s95 =>
 rop P (loadAt 26 g5) h10 fun s97 =>
 rop P (loadAt 48 w6) h10 fun s98 =>
 callM P 31 #[s97, s98] h10 fun s99 h11 =>
 pop P (extract s99 0) fun s100 =>
 pop P (extract s99 1) fun s101 =>
 rop P (loadAt 26 g5) h11 fun s103 =>
 rop P (loadAt 48 w6) h11 fun s104 =>
 callM P 32 #[s103, s104] h11 fun s105 h12 =>
 pop P (extract s105 0) fun s106 =>
 pop P (extract s105 1) fun s107 =>
 rop P (loadAt 26 g5) h12 fun s109 =>
 rop P (loadAt 48 w6) h12 fun s110 =>
 callM P 33 #[s109, s110] h12 fun s111 h13 =>
 pop P (extract s111 0) fun s112 =>
 pop P (extract s111 1) fun s113 =>
 rop P (loadAt 26 g5) h13 fun s115 =>
 rop P (loadAt 48 w6) h13 fun s116 =>
 callM P 34 #[s115, s116] h13 fun s117 h14 =>
 pop P (extract s117 0) fun s118 =>
 pop P (extract s117 1) fun s119 =>
 pop P (binE .neq 4 (.tmp 120) (.tmp 121) s77 s83) fun s122 =>
 guardM (asG s122 false) false (fun k_1 => k_1 s76 h14) h14 fun s124 h15 =>
 guardM (asG s122 false) false (fun k_2 => k_2 s82 h15) h15 fun s125 h16 =>
 guardM (asG s122 false) false (fun k_3 => pop P (binE .neq 4 (.tmp 124) (.tmp 125) s124 s125) fun s126 =>
 k_3 s126 h16) h16 fun s126b h17 =>
 pop P (pickS s122 (Value.bool true) s126b) fun s127 =>
 guardM (asG s127 false) false (fun k_4 => k_4 s89 h17) h17 fun s129 h18 =>
 guardM (asG s127 false) false (fun k_5 => k_5 s95 h18) h18 fun s130 h19 =>
 guardM (asG s127 false) false (fun k_6 => pop P (binE .neq 4 (.tmp 129) (.tmp 130) s129 s130) fun s131 =>
 k_6 s131 h19) h19 fun s131b h20 =>
 pop P (pickS s127 (Value.bool true) s131b) fun s132 =>
 guardM (asG s132 false) false (fun k_7 => k_7 s88 h20) h20 fun s134 h21 =>
 guardM (asG s132 false) false (fun k_8 => k_8 s94 h21) h21 fun s135 h22 =>
 guardM (asG s132 false) false (fun k_9 => callM P 16 #[s134, s135] h22 fun s136 h23 =>
 k_9 s136 h23) h22 fun s136b h24 =>
 guardM (asG s132 false) false (fun k_10 => pop P (Op.unary .not s136b) fun s137 =>
 k_10 s137 h24) h24 fun s137b h25 =>
 pop P (pickS s132 (Value.bool true) s137b) fun s138 =>
 guardM (asG s138 false) false (fun k_11 => k_11 s101 h25) h25 fun s140 h26 =>
 guardM (asG s138 false) false (fun k_12 => k_12 s107 h26) h26 fun s141 h27 =>
 guardM (asG s138 false) false (fun k_13 => pop P (binE .neq 4 (.tmp 140) (.tmp 141) s140 s141) fun s142 =>
 k_13 s142 h27) h27 fun s142b h28 =>
 pop P (pickS s138 (Value.bool true) s142b) fun s143 =>
 guardM (asG s143 false) false (fun k_14 => k_14 s100 h28) h28 fun s145 h29 =>
 guardM (asG s143 false) false (fun k_15 => k_15 s106 h29) h29 fun s146 h30 =>
 guardM (asG s143 false) false (fun k_16 => callM P 16 #[s145, s146] h30 fun s147 h31 =>
 k_16 s147 h31) h30 fun s147b h32 =>
 guardM (asG s143 false) false (fun k_17 => pop P (Op.unary .not s147b) fun s148 =>
 k_17 s148 h32) h32 fun s148b h33 =>
 pop P (pickS s143 (Value.bool true) s148b) fun s149 =>
 guardM (asG s149 false) false (fun k_18 => k_18 s113 h33) h33 fun s151 h34 =>
 guardM (asG s149 false) false (fun k_19 => k_19 s119 h34) h34 fun s152 h35 =>
 guardM (asG s149 false) false (fun k_20 => pop P (binE .neq 4 (.tmp 151) (.tmp 152) s151 s152) fun s153 =>
 k_20 s153 h35) h35 fun s153b h36 =>
 pop P (pickS s149 (Value.bool true) s153b) fun s154 =>
 guardM (asG s154 false) false (fun k_21 => k_21 s112 h36) h36 fun s156 h37 =>
 guardM (asG s154 false) false (fun k_22 => k_22 s118 h37) h37 fun s157 h38 =>
 guardM (asG s154 false) false (fun k_23 => pop P (binE .neq 3 (.tmp 156) (.tmp 157) s156 s157) fun s158 =>
 k_23 s158 h38) h38 fun s158b h39 =>
 pop P (pickS s154 (Value.bool true) s158b) fun s159 =>
 guardM (asG s159 false) false (fun k_24 => k_24 s89 h39) h39 fun s161 h40 =>
 guardM (asG s159 false) false (fun k_25 => k_25 s77 h40) h40 fun s162 h41 =>
 guardM (asG s159 false) false (fun k_26 => k_26 s162 h41) h41 fun s163 h42 =>
 guardM (asG s163 true) true (fun k_27 => k_27 s76 h42) h42 fun s164 h43 =>
 guardM (asG s159 false) false (fun k_28 => pop P (pickS s163 s164 (Value.bool false)) fun s165 =>
 k_28 s165 h43) h43 fun s165b h44 =>
 guardM (asG s159 false) false (fun k_29 => pop P (binE .neq 4 (.tmp 161) (.tmp 165) s161 s165b) fun s166 =>
 k_29 s166 h44) h44 fun s166b h45 =>
 pop P (pickS s159 (Value.bool true) s166b) fun s167 =>
 guardM (asG s167 false) false (fun k_30 => k_30 s77 h45) h45 fun s169 h46 =>
 guardM (asG s167 false) false (fun k_31 => k_31 s169 h46) h46 fun s170 h47 =>
 guardM (asG s170 true) true (fun k_32 => k_32 s76 h47) h47 fun s171 h48 =>
 guardM (asG s167 false) false (fun k_33 => pop P (pickS s170 s171 (Value.bool false)) fun s172 =>
 k_33 s172 h48) h48 fun s172b h49 =>
 guardM (asG s167 false) false (fun k_34 => k_34 s172b h49) h49 fun s173 h50 =>
 guardM (asG s173 true) true (fun k_35 => k_35 s101 h50) h50 fun s174 h51 =>
 guardM (asG s173 true) true (fun k_36 => pop P (Op.unary .not s174) fun s175 =>
 k_36 s175 h51) h51 fun s175b h52 =>
 guardM (asG s167 false) false (fun k_37 => pop P (pickS s173 s175b (Value.bool false)) fun s176 =>
 k_37 s176 h52) h52 fun s176b h53 =>
 pop P (pickS s167 (Value.bool true) s176b) fun s177 =>
 condM s177
 (K (Value.bool false) h53)
 (∃ J1 : List Value -> Heap -> Prop, (condM s101
 (pop P (lenS 29 3 s100) fun s180 =>
 ∃ (I1 : List Value -> Heap -> Prop) (μ_1 : List Value -> Heap -> Nat), I1 [(.int .i64 0)] h53 /\
 ∀ (junk1 : Nat -> Value) (s181 : Value) (h54 : Heap), I1 [s181] h54 ->
 pop P (binA .lss 3 s181 s180) fun s182 =>
 condM s182
 (pop P (Instr.indexAt 29 s100 s181) fun s184 =>
 rop P (loadAt 3 s184) h54 fun s185 =>
 pop P (Instr.fieldAt 26 g5 0) fun s186 =>
 rop P (loadAt 24 s186) h54 fun s187 =>
 pop P (Instr.indexAt 24 s187 s185) fun s189 =>
 rop P (loadAt 29 s189) h54 fun s190 =>
 pop P (Instr.fieldAt 48 w6 0) fun s191 =>
 rop P (loadAt 29 s191) h54 fun s192 =>
 pop P (Instr.indexAt 29 s192 s185) fun s194 =>
 rop P (loadAt 3 s194) h54 fun s195 =>
 pop P (Instr.indexAt 29 s190 s195) fun s196 =>
 rop P (loadAt 3 s196) h54 fun s197 =>
 pop P (binA .add 3 s181 (.int .i64 1)) fun s200 =>
 pop P (lenS 29 3 s100) fun s202 =>
 pop P (binA .rem 3 s200 s202) fun s203 =>
 pop P (Instr.indexAt 29 s100 s203) fun s204 =>
 rop P (loadAt 3 s204) h54 fun s205 =>
 pop P (binE .neq 3 (.tmp 197) (.tmp 205) s197 s205) fun s206 =>
 condM s206
 (K (Value.bool false) h54)
 (pop P (binA .add 3 s181 (.int .i64 1)) fun s207 =>
 I1 [s207] h54 /\ μ_1 [s207] h54 < μ_1 [s181] h54))
 (J1 [] h54))
 (J1 [] h53)) /\
 ∀ (junk2 : Nat -> Value) (h55 : Heap), J1 [] h55 ->
 ∃ J2 : List Value -> Heap -> Prop, (condM s89
 (rop P (loadAt 26 g5) h55 fun s210 =>
 pop P (Instr.fieldAt 48 w6 1) fun s211 =>
 rop P (loadAt 3 s211) h55 fun s212 =>
 callM P 17 #[s210, s212, s88] h55 fun s214 h56 =>
 pop P (extract s214 0) fun s215 =>
 pop P (extract s214 1) fun s216 =>
 ∃ J3 : List Value -> Heap -> Prop, (rop P (loadAt 26 g5) h56 fun s218 =>
 pop P (Instr.fieldAt 48 w6 1) fun s219 =>
 rop P (loadAt 3 s219) h56 fun s220 =>
 pop P (Instr.fieldAt 48 w6 0) fun s222 =>
 rop P (loadAt 29 s222) h56 fun s223 =>
 pop P (Instr.fieldAt 48 w6 1) fun s224 =>
 rop P (loadAt 3 s224) h56 fun s225 =>
 pop P (Instr.indexAt 29 s223 s225) fun s226 =>
 rop P (loadAt 3 s226) h56 fun s227 =>
 (callM P 35 #[s218, s220, s88, s227] h56 fun s228 h57 =>
 (∀ w : World, w.heap = h57 -> (loadAt 3 s224).run P w = .ok s225 w) /\
 (∀ w : World, w.heap = h57 -> (loadAt 29 s222).run P w = .ok s223 w) /\
 pop P (extract s228 0) fun s229 =>
 pop P (extract s228 1) fun s230 =>
 eop P (Instr.alloc 48 true (.tuple #[])) h57 fun b27 h58 =>
 (∀ w : World, w.heap = h58 -> (loadAt 3 s224).run P w = .ok s225 w) /\
 (∀ w : World, w.heap = h58 -> (loadAt 29 s222).run P w = .ok s223 w) /\
 uop P (Instr.storeAt 48 b27 s229) h58 fun q3 h59 =>
 J3 [b27, s230] h59) /\
 (eop P (Instr.alloc 48 true (.tuple #[])) h56 fun b27a h60 =>
 (∀ w : World, w.heap = h60 -> (loadAt 3 s226).run P w = .ok s227 w) /\
 (∀ w : World, w.heap = h60 -> (loadAt 3 s224).run P w = .ok s225 w) /\
 (∀ w : World, w.heap = h60 -> (loadAt 29 s222).run P w = .ok s223 w) /\
 (∀ w : World, w.heap = h60 -> (loadAt 3 s219).run P w = .ok s220 w) /\
 (∀ w : World, w.heap = h60 -> (loadAt 26 g5).run P w = .ok s218 w) /\
 callM P 35 #[s218, s220, s88, s227] h60 fun s228b h61 =>
 (∀ w : World, w.heap = h61 -> (loadAt 3 s224).run P w = .ok s225 w) /\
 (∀ w : World, w.heap = h61 -> (loadAt 29 s222).run P w = .ok s223 w) /\
 pop P (extract s228b 0) fun s229b =>
 pop P (extract s228b 1) fun s230b =>
 uop P (Instr.storeAt 48 b27a s229b) h61 fun q4 h62 =>
 J3 [b27a, s230b] h62)) /\
 ∀ (junk3 : Nat -> Value) (b27b : Value) (z28 : Value) (h63 : Heap), J3 [b27b, z28] h63 ->
 rop P (loadAt 26 g5) h63 fun s232 =>
 rop P (loadAt 48 w6) h63 fun s233 =>
 callM P 36 #[s232, s233] h63 fun s234 h64 =>
 pop P (extract s234 0) fun s235 =>
 pop P (extract s234 1) fun s236 =>
 eop P (Instr.alloc 48 true (.tuple #[])) h64 fun n29 h65 =>
 uop P (Instr.storeAt 48 n29 s235) h65 fun q5 h66 =>
 rop P (loadAt 26 g5) h66 fun s238 =>
 rop P (loadAt 48 n29) h66 fun s239 =>
 callM P 27 #[s238, s239] h66 fun s240 h67 =>
 pop P (extract s240 0) fun s241 =>
 pop P (extract s240 1) fun s242 =>
 pop P (Op.unary .not s216) fun s244 =>
 guardM (asG s244 false) false (fun k_38 => k_38 s215 h67) h67 fun s246 h68 =>
 guardM (asG s244 false) false (fun k_39 => pop P (Op.unary .not s246) fun s247 =>
 k_39 s247 h68) h68 fun s247b h69 =>
 pop P (pickS s244 (Value.bool true) s247b) fun s248 =>
 guardM (asG s248 false) false (fun k_40 => k_40 z28 h69) h69 fun s250 h70 =>
 guardM (asG s248 false) false (fun k_41 => pop P (Op.unary .not s250) fun s251 =>
 k_41 s251 h70) h70 fun s251b h71 =>
 pop P (pickS s248 (Value.bool true) s251b) fun s252 =>
 guardM (asG s252 false) false (fun k_42 => rop P (loadAt 48 b27b) h71 fun s254 =>
 k_42 s254 h71) h71 fun s254b h72 =>
 guardM (asG s252 false) false (fun k_43 => rop P (loadAt 48 w6) h72 fun s255 =>
 k_43 s255 h72) h72 fun s255b h73 =>
 guardM (asG s252 false) false (fun k_44 => callM P 37 #[s254b, s255b] h73 fun s256 h74 =>
 k_44 s256 h74) h73 fun s256b h75 =>
 guardM (asG s252 false) false (fun k_45 => pop P (Op.unary .not s256b) fun s257 =>
 k_45 s257 h75) h75 fun s257b h76 =>
 pop P (pickS s252 (Value.bool true) s257b) fun s258 =>
 guardM (asG s258 false) false (fun k_46 => k_46 s236 h76) h76 fun s260 h77 =>
 guardM (asG s258 false) false (fun k_47 => pop P (Op.unary .not s260) fun s261 =>
 k_47 s261 h77) h77 fun s261b h78 =>
 pop P (pickS s258 (Value.bool true) s261b) fun s262 =>
 guardM (asG s262 false) false (fun k_48 => k_48 s242 h78) h78 fun s264 h79 =>
 guardM (asG s262 false) false (fun k_49 => pop P (Op.unary .not s264) fun s265 =>
 k_49 s265 h79) h79 fun s265b h80 =>
 pop P (pickS s262 (Value.bool true) s265b) fun s266 =>
 guardM (asG s266 false) false (fun k_50 => k_50 s241 h80) h80 fun s268 h81 =>
 guardM (asG s266 false) false (fun k_51 => pop P (Op.unary .not s268) fun s269 =>
 k_51 s269 h81) h81 fun s269b h82 =>
 pop P (pickS s266 (Value.bool true) s269b) fun s270 =>
 guardM (asG s270 false) false (fun k_52 => k_52 s100 h82) h82 fun s272 h83 =>
 guardM (asG s270 false) false (fun k_53 => pop P (Instr.fieldAt 48 w6 1) fun s273 =>
 k_53 s273 h83) h83 fun s273b h84 =>
 guardM (asG s270 false) false (fun k_54 => rop P (loadAt 3 s273b) h84 fun s274 =>
 k_54 s274 h84) h84 fun s274b h85 =>
 guardM (asG s270 false) false (fun k_55 => callM P 38 #[s272, s274b] h85 fun s275 h86 =>
 k_55 s275 h86) h85 fun s275b h87 =>
 guardM (asG s270 false) false (fun k_56 => pop P (Op.unary .not s275b) fun s276 =>
 k_56 s276 h87) h87 fun s276b h88 =>
 pop P (pickS s270 (Value.bool true) s276b) fun s277 =>
 guardM (asG s277 false) false (fun k_57 => k_57 s113 h88) h88 fun s279 h89 =>
 guardM (asG s277 false) false (fun k_58 => pop P (Op.unary .not s279) fun s280 =>
 k_58 s280 h89) h89 fun s280b h90 =>
 pop P (pickS s277 (Value.bool true) s280b) fun s281 =>
 guardM (asG s281 false) false (fun k_59 => k_59 s112 h90) h90 fun s283 h91 =>
 guardM (asG s281 false) false (fun k_60 => pop P (binE .neq 3 (.tmp 283) (.const (.int .i64 0)) s283 (.int .i64 0)) fun s284 =>
 k_60 s284 h91) h91 fun s284b h92 =>
 pop P (pickS s281 (Value.bool true) s284b) fun s285 =>
 condM s285
 (K (Value.bool false) h92)
 (J2 [] h92))
 (J2 [] h55)) /\
 ∀ (junk4 : Nat -> Value) (h93 : Heap), J2 [] h93 ->
 ∃ J4 : List Value -> Heap -> Prop, (condM s113
 (rop P (loadAt 26 g5) h93 fun s288 =>
 rop P (loadAt 48 w6) h93 fun s289 =>
 callM P 39 #[s288, s289, s112] h93 fun s291 h94 =>
 pop P (extract s291 0) fun s292 =>
 pop P (extract s291 1) fun s293 =>
 eop P (Instr.alloc 48 true (.tuple #[])) h94 fun z33 h95 =>
 uop P (Instr.storeAt 48 z33 s292) h95 fun q6 h96 =>
 rop P (loadAt 26 g5) h96 fun s295 =>
 rop P (loadAt 48 z33) h96 fun s296 =>
 callM P 27 #[s295, s296] h96 fun s297 h97 =>
 pop P (extract s297 0) fun s298 =>
 pop P (extract s297 1) fun s299 =>
 pop P (Op.unary .not s293) fun s301 =>
 guardM (asG s301 false) false (fun k_61 => k_61 s299 h97) h97 fun s303 h98 =>
 guardM (asG s301 false) false (fun k_62 => pop P (Op.unary .not s303) fun s304 =>
 k_62 s304 h98) h98 fun s304b h99 =>
 pop P (pickS s301 (Value.bool true) s304b) fun s305 =>
 guardM (asG s305 false) false (fun k_63 => k_63 s298 h99) h99 fun s307 h100 =>
 guardM (asG s305 false) false (fun k_64 => pop P (Op.unary .not s307) fun s308 =>
 k_64 s308 h100) h100 fun s308b h101 =>
 pop P (pickS s305 (Value.bool true) s308b) fun s309 =>
 condM s309
 (K (Value.bool false) h101)
 (J4 [] h101))
 (J4 [] h93)) /\
 ∀ (junk5 : Nat -> Value) (h102 : Heap), J4 [] h102 ->
 callM P 40 #[m1] h102 fun s311 h103 =>
 eop P (Instr.alloc 26 true (.tuple #[])) h103 fun z37 h104 =>
 uop P (Instr.storeAt 26 z37 s311) h104 fun q7 h105 =>
 rop P (loadAt 26 z37) h105 fun s313 =>
 callM P 41 #[s313] h105 fun s314 h106 =>
 pop P (extract s314 0) fun s315 =>
 pop P (extract s314 1) fun s316 =>
 rop P (loadAt 26 z37) h106 fun s318 =>
 callM P 42 #[s318] h106 fun s319 h107 =>
 pop P (extract s319 0) fun s320 =>
 pop P (extract s319 1) fun s321 =>
 pop P (binE .neq 4 (.tmp 322) (.tmp 323) s316 s321) fun s324 =>
 guardM (asG s324 false) false (fun k_65 => k_65 s315 h107) h107 fun s326 h108 =>
 guardM (asG s324 false) false (fun k_66 => k_66 s320 h108) h108 fun s327 h109 =>
 guardM (asG s324 false) false (fun k_67 => pop P (binE .neq 3 (.tmp 326) (.tmp 327) s326 s327) fun s328 =>
 k_67 s328 h109) h109 fun s328b h110 =>
 pop P (pickS s324 (Value.bool true) s328b) fun s329 =>
 condM s329
 (K (Value.bool false) h110)
 (∃ J5 : List Value -> Heap -> Prop, (guardM (asG s316 true) true (fun k_68 => k_68 s315 h110) h110 fun s332 h111 =>
 guardM (asG s316 true) true (fun k_69 => pop P (binA .leq 3 s332 (.int .i64 60)) fun s333 =>
 k_69 s333 h111) h111 fun s333b h112 =>
 pop P (pickS s316 s333b (Value.bool false)) fun s334 =>
 condM s334
 (pop P (Instr.fieldAt 26 z37 0) fun s335 =>
 rop P (loadAt 24 s335) h112 fun s336 =>
 pop P (lenS 24 3 s336) fun s337 =>
 ∃ (I2 : List Value -> Heap -> Prop) (μ_2 : List Value -> Heap -> Nat), I2 [(.int .i64 0), (.int .i64 0)] h112 /\
 ∀ (junk6 : Nat -> Value) (n42 : Value) (s338 : Value) (h113 : Heap), I2 [n42, s338] h113 ->
 pop P (binA .lss 3 s338 s337) fun s339 =>
 condM s339
 (rop P (loadAt 26 z37) h113 fun s342 =>
 callM P 43 #[s342, s338] h113 fun s344 h114 =>
 pop P (extract s344 0) fun s345 =>
 pop P (extract s344 1) fun s346 =>
 pop P (Op.unary .not s346) fun s348 =>
 condM s348
 (K (Value.bool false) h114)
 (pop P (lenS 62 3 s345) fun s350 =>
 ∃ (I3 : List Value -> Heap -> Prop) (μ_3 : List Value -> Heap -> Nat), I3 [(.int .i64 0)] h114 /\
 ∀ (junk7 : Nat -> Value) (s351 : Value) (h115 : Heap), I3 [s351] h115 ->
 pop P (binA .lss 3 s351 s350) fun s352 =>
 condM s352
 (pop P (Instr.indexAt 62 s345 s351) fun s354 =>
 rop P (loadAt 48 s354) h115 fun s355 =>
 eop P (Instr.alloc 48 true (.tuple #[])) h115 fun u47 h116 =>
 uop P (Instr.storeAt 48 u47 s355) h116 fun q8 h117 =>
 rop P (loadAt 26 z37) h117 fun s357 =>
 rop P (loadAt 48 u47) h117 fun s358 =>
 callM P 27 #[s357, s358] h117 fun s359 h118 =>
 pop P (extract s359 0) fun s360 =>
 pop P (extract s359 1) fun s361 =>
 pop P (Op.unary .not s361) fun s363 =>
 guardM (asG s363 false) false (fun k_70 => k_70 s360 h118) h118 fun s365 h119 =>
 guardM (asG s363 false) false (fun k_71 => pop P (Op.unary .not s365) fun s366 =>
 k_71 s366 h119) h119 fun s366b h120 =>
 pop P (pickS s363 (Value.bool true) s366b) fun s367 =>
 guardM (asG s367 false) false (fun k_72 => pop P (Instr.fieldAt 48 u47 1) fun s369 =>
 k_72 s369 h120) h120 fun s369b h121 =>
 guardM (asG s367 false) false (fun k_73 => rop P (loadAt 3 s369b) h121 fun s370 =>
 k_73 s370 h121) h121 fun s370b h122 =>
 guardM (asG s367 false) false (fun k_74 => k_74 s338 h122) h122 fun s371 h123 =>
 guardM (asG s367 false) false (fun k_75 => pop P (binE .neq 3 (.tmp 370) (.tmp 371) s370b s371) fun s372 =>
 k_75 s372 h123) h123 fun s372b h124 =>
 pop P (pickS s367 (Value.bool true) s372b) fun s373 =>
 guardM (asG s373 false) false (fun k_76 => k_76 s351 h124) h124 fun s375 h125 =>
 guardM (asG s373 false) false (fun k_77 => pop P (binA .gtr 3 s375 (.int .i64 0)) fun s376 =>
 k_77 s376 h125) h125 fun s376b h126 =>
 guardM (asG s373 false) false (fun k_78 => k_78 s376b h126) h126 fun s377 h127 =>
 guardM (asG s377 true) true (fun k_79 => k_79 s345 h127) h127 fun s378 h128 =>
 guardM (asG s377 true) true (fun k_80 => k_80 s351 h128) h128 fun s379 h129 =>
 guardM (asG s377 true) true (fun k_81 => pop P (binA .sub 3 s379 (.int .i64 1)) fun s380 =>
 k_81 s380 h129) h129 fun s380b h130 =>
 guardM (asG s377 true) true (fun k_82 => pop P (Instr.indexAt 62 s378 s380b) fun s381 =>
 k_82 s381 h130) h130 fun s381b h131 =>
 guardM (asG s377 true) true (fun k_83 => pop P (Instr.fieldAt 48 s381b 0) fun s382 =>
 k_83 s382 h131) h131 fun s382b h132 =>
 guardM (asG s377 true) true (fun k_84 => rop P (loadAt 29 s382b) h132 fun s383 =>
 k_84 s383 h132) h132 fun s383b h133 =>
 guardM (asG s377 true) true (fun k_85 => pop P (Instr.fieldAt 48 u47 0) fun s384 =>
 k_85 s384 h133) h133 fun s384b h134 =>
 guardM (asG s377 true) true (fun k_86 => rop P (loadAt 29 s384b) h134 fun s385 =>
 k_86 s385 h134) h134 fun s385b h135 =>
 guardM (asG s377 true) true (fun k_87 => callM P 44 #[s383b, s385b] h135 fun s386 h136 =>
 k_87 s386 h136) h135 fun s386b h137 =>
 (∃ b1 : Bool, asG s367 false = .bool b1 /\ (b1 = false -> ∀ w : World, w.heap = h137 -> (loadAt 3 s369b).run P w = .ok s370b w) /\ (b1 ≠ false -> s370b = undef)) /\
 guardM (asG s377 true) true (fun k_88 => pop P (Op.unary .not s386b) fun s387 =>
 k_88 s387 h137) h137 fun s387b h138 =>
 guardM (asG s373 false) false (fun k_89 => pop P (pickS s377 s387b (Value.bool false)) fun s388 =>
 k_89 s388 h138) h138 fun s388b h139 =>
 pop P (pickS s373 (Value.bool true) s388b) fun s389 =>
 condM s389
 (K (Value.bool false) h139)
 (pop P (binA .add 3 s351 (.int .i64 1)) fun s390 =>
 I3 [s390] h139 /\ μ_3 [s390] h139 < μ_3 [s351] h115))
 (pop P (lenS 62 3 s345) fun s393 =>
 pop P (binA .add 3 n42 s393) fun s394 =>
 pop P (binA .add 3 s338 (.int .i64 1)) fun s395 =>
 I2 [s394, s395] h115 /\ μ_2 [s394, s395] h115 < μ_2 [n42, s338] h113)))
 (pop P (binE .neq 3 (.tmp 396) (.tmp 397) n42 s315) fun s398 =>
 condM s398
 (K (Value.bool false) h113)
 (J5 [] h113)))
 (J5 [] h112)) /\
 ∀ (junk8 : Nat -> Value) (h140 : Heap), J5 [] h140 ->
 callM P 45 #[m1] h140 fun s401 h141 =>
 pop P (extract s401 0) fun s402 =>
 pop P (extract s401 1) fun s403 =>
 eop P (Instr.alloc 26 true (.tuple #[])) h141 fun x50 h142 =>
 uop P (Instr.storeAt 26 x50 s402) h142 fun q9 h143 =>
 rop P (loadAt 26 x50) h143 fun s405 =>
 callM P 43 #[s405, s403] h143 fun s407 h144 =>
 pop P (extract s407 0) fun s408 =>
 pop P (extract s407 1) fun s409 =>
 rop P (loadAt 26 x50) h144 fun s411 =>
 callM P 46 #[s411, s403] h144 fun s413 h145 =>
 pop P (extract s413 0) fun s414 =>
 pop P (extract s413 1) fun s415 =>
 callM P 47 #[m1] h145 fun s418 h146 =>
 pop P (extract s418 0) fun s419 =>
 pop P (extract s418 1) fun s420 =>
 pop P (extract s418 2) fun s421 =>
 pop P (extract s418 3) fun s422 =>
 eop P (Instr.alloc 26 true (.tuple #[])) h146 fun y56 h147 =>
 uop P (Instr.storeAt 26 y56 s419) h147 fun q10 h148 =>
 rop P (loadAt 26 y56) h148 fun s424 =>
 callM P 35 #[s424, s420, s421, s422] h148 fun s428 h149 =>
 pop P (extract s428 0) fun s429 =>
 pop P (extract s428 1) fun s430 =>
 eop P (Instr.alloc 48 true (.tuple #[])) h149 fun m60 h150 =>
 uop P (Instr.storeAt 48 m60 s429) h150 fun q11 h151 =>
 rop P (loadAt 26 y56) h151 fun s432 =>
 callM P 48 #[s432, s420, s421, s422] h151 fun s436 h152 =>
 pop P (extract s436 0) fun s437 =>
 pop P (extract s436 1) fun s438 =>
 eop P (Instr.alloc 48 true (.tuple #[])) h152 fun o62 h153 =>
 uop P (Instr.storeAt 48 o62 s437) h153 fun q12 h154 =>
 pop P (binE .eql 4 (.tmp 439) (.tmp 440) s409 s415) fun s441 =>
 guardM (asG s441 true) true (fun k_90 => k_90 s408 h154) h154 fun s443 h155 =>
 guardM (asG s441 true) true (fun k_91 => k_91 s414 h155) h155 fun s444 h156 =>
 guardM (asG s441 true) true (fun k_92 => callM P 49 #[s443, s444] h156 fun s445 h157 =>
 k_92 s445 h157) h156 fun s445b h158 =>
 pop P (pickS s441 s445b (Value.bool false)) fun s446 =>
 guardM (asG s446 true) true (fun k_93 => k_93 s430 h158) h158 fun s448 h159 =>
 guardM (asG s446 true) true (fun k_94 => k_94 s438 h159) h159 fun s449 h160 =>
 guardM (asG s446 true) true (fun k_95 => pop P (binE .eql 4 (.tmp 448) (.tmp 449) s448 s449) fun s450 =>
 k_95 s450 h160) h160 fun s450b h161 =>
 pop P (pickS s446 s450b (Value.bool false)) fun s451 =>
 guardM (asG s451 true) true (fun k_96 => rop P (loadAt 48 m60) h161 fun s453 =>
 k_96 s453 h161) h161 fun s453b h162 =>
 guardM (asG s451 true) true (fun k_97 => rop P (loadAt 48 o62) h162 fun s454 =>
 k_97 s454 h162) h162 fun s454b h163 =>
 guardM (asG s451 true) true (fun k_98 => callM P 37 #[s453b, s454b] h163 fun s455 h164 =>
 k_98 s455 h164) h163 fun s455b h165 =>
 pop P (pickS s451 s455b (Value.bool false)) fun s456 =>
 guardM (asG s456 true) true (fun k_99 => k_99 s430 h165) h165 fun s458 h166 =>
 guardM (asG s456 true) true (fun k_100 => pop P (Op.unary .not s458) fun s459 =>
 k_100 s459 h166) h166 fun s459b h167 =>
 guardM (asG s456 true) true (fun k_101 => k_101 s459b h167) h167 fun s460 h168 =>
 guardM (asG s460 false) false (fun k_102 => rop P (loadAt 26 y56) h168 fun s461 =>
 k_102 s461 h168) h168 fun s461b h169 =>
 guardM (asG s460 false) false (fun k_103 => rop P (loadAt 48 m60) h169 fun s462 =>
 k_103 s462 h169) h169 fun s462b h170 =>
 guardM (asG s460 false) false (fun k_104 => callM P 50 #[s461b, s462b] h170 fun s463 h171 =>
 k_104 s463 h171) h170 fun s463b h172 =>
 guardM (asG s456 true) true (fun k_105 => pop P (pickS s460 (Value.bool true) s463b) fun s464 =>
 k_105 s464 h172) h172 fun s464b h173 =>
 pop P (pickS s456 s464b (Value.bool false)) fun s465 =>
 K s465 h173)))
theorem e4 (z0 : Value) (m1 : Value) (h : Heap) (K : KQ) : wpA Tryz.prog 466 (anOf [(8191, []), (16383, []), (32767, []), (262122, [181]), (262133, [27, 28]), (1048575, []), (134217642, [42, 338]), (274877731642, [351])]) (bodyOf Tryz.f4) 1 (fun A h => resA Tryz.prog A h K [.tmp 4]) (fun _ _ _ => False) (fun A h => resA Tryz.prog A h K [.tmp 4]) (aargs [z0, m1] 0) h = t4 Tryz.prog z0 m1 h K := by kernel_rfl
theorem c4 (z0 : Value) (m1 : Value) (h : Heap) (K : KQ) (H : t4 Tryz.prog z0 m1 h K) : callM Tryz.prog 4 #[z0, m1] h K :=
  callM_of_wpA mixed (fn := Tryz.f4) Tryz.func4 (c := bodyOf Tryz.f4) rfl (of_decide_eq_true (by kernel_rfl)) (anOf [(8191, []), (16383, []), (32767, []), (262122, [181]), (262133, [27, 28]), (1048575, []), (134217642, [42, 338]), (274877731642, [351])]) 464 466 (by kernel_rfl) rfl [.tmp 4] (by kernel_rfl) (args := [z0, m1]) (by rw [e4]; exact H)
def t5 (P : Program) (z0 : Value) (m1 : Value) (h : Heap) (K : KQ) : Prop :=
 pop P (lenS 22 3 z0) fun s6 =>
 pop P (binA .gtr 3 s6 (.int .i64 1048576)) fun s7 =>
 guardM (asG s7 false) false (fun k_1 => k_1 m1 h) h fun s9 h1 =>
 guardM (asG s7 false) false (fun k_2 => pop P (lenS 22 3 s9) fun s10 =>
 k_2 s10 h1) h1 fun s10b h2 =>
 guardM (asG s7 false) false (fun k_3 => k_3 z0 h2) h2 fun s11 h3 =>
 guardM (asG s7 false) false (fun k_4 => pop P (lenS 22 3 s11) fun s12 =>
 k_4 s12 h3) h3 fun s12b h4 =>
 guardM (asG s7 false) false (fun k_5 => pop P (binA .sub 3 (.int .i64 1048576) s12b) fun s13 =>
 k_5 s13 h4) h4 fun s13b h5 =>
 guardM (asG s7 false) false (fun k_6 => pop P (binA .gtr 3 s10b s13b) fun s14 =>
 k_6 s14 h5) h5 fun s14b h6 =>
 pop P (pickS s7 (Value.bool true) s14b) fun s15 =>
 K s15 h6
theorem e5 (z0 : Value) (m1 : Value) (h : Heap) (K : KQ) : wpA Tryz.prog 16 (anOf []) (bodyOf Tryz.f5) 1 (fun A h => resA Tryz.prog A h K [.tmp 4]) (fun _ _ _ => False) (fun A h => resA Tryz.prog A h K [.tmp 4]) (aargs [z0, m1] 0) h = t5 Tryz.prog z0 m1 h K := by kernel_rfl
theorem c5 (z0 : Value) (m1 : Value) (h : Heap) (K : KQ) (H : t5 Tryz.prog z0 m1 h K) : callM Tryz.prog 5 #[z0, m1] h K :=
  callM_of_wpA mixed (fn := Tryz.f5) Tryz.func5 (c := bodyOf Tryz.f5) rfl (of_decide_eq_true (by kernel_rfl)) (anOf []) 14 16 (by kernel_rfl) rfl [.tmp 4] (by kernel_rfl) (args := [z0, m1]) (by rw [e5]; exact H)
def t16 (P : Program) (a0 : Value) (z1 : Value) (h : Heap) (K : KQ) : Prop :=
 pop P (lenS 29 3 a0) fun s7 =>
 pop P (lenS 29 3 z1) fun s9 =>
 pop P (binE .neq 3 (.tmp 7) (.tmp 9) s7 s9) fun s10 =>
 condM s10
 (K (Value.bool false) h)
 (pop P (lenS 29 3 a0) fun s12 =>
 ∃ (I1 : List Value -> Heap -> Prop) (μ_1 : List Value -> Heap -> Nat), I1 [(.int .i64 0)] h /\
 ∀ (junk1 : Nat -> Value) (s13 : Value) (h1 : Heap), I1 [s13] h1 ->
 pop P (binA .lss 3 s13 s12) fun s14 =>
 condM s14
 (pop P (Instr.indexAt 29 a0 s13) fun s18 =>
 rop P (loadAt 3 s18) h1 fun s19 =>
 pop P (Instr.indexAt 29 z1 s13) fun s22 =>
 rop P (loadAt 3 s22) h1 fun s23 =>
 pop P (binE .neq 3 (.tmp 19) (.tmp 23) s19 s23) fun s24 =>
 condM s24
 (K (Value.bool false) h1)
 (pop P (binA .add 3 s13 (.int .i64 1)) fun s25 =>
 I1 [s25] h1 /\ μ_1 [s25] h1 < μ_1 [s13] h1))
 (K (Value.bool true) h1))
theorem e16 (a0 : Value) (z1 : Value) (h : Heap) (K : KQ) : wpA Tryz.prog 26 (anOf [(58, [13])]) (bodyOf Tryz.f16) 1 (fun A h => resA Tryz.prog A h K [.tmp 4]) (fun _ _ _ => False) (fun A h => resA Tryz.prog A h K [.tmp 4]) (aargs [a0, z1] 0) h = t16 Tryz.prog a0 z1 h K := by kernel_rfl
theorem c16 (a0 : Value) (z1 : Value) (h : Heap) (K : KQ) (H : t16 Tryz.prog a0 z1 h K) : callM Tryz.prog 16 #[a0, z1] h K :=
  callM_of_wpA mixed (fn := Tryz.f16) Tryz.func16 (c := bodyOf Tryz.f16) rfl (of_decide_eq_true (by kernel_rfl)) (anOf [(58, [13])]) 24 26 (by kernel_rfl) rfl [.tmp 4] (by kernel_rfl) (args := [a0, z1]) (by rw [e16]; exact H)
def t17 (P : Program) (g0 : Value) (e1 : Value) (r2 : Value) (h : Heap) (K : KQ) : Prop :=
 eop P (Instr.box 26 g0) h fun g3 h1 =>
 rop P (loadAt 26 g3) h1 fun s8 =>
 callM P 62 #[s8, e1, r2] h1 fun s11 h2 =>
 pop P (Op.unary .not s11) fun s12 =>
 condM s12
 (K (.tuple #[(Value.bool false), (Value.bool false)]) h2)
 (rop P (loadAt 26 g3) h2 fun s13 =>
 callM P 63 #[s13, e1, r2] h2 fun s16 h3 =>
 K (.tuple #[s16, (Value.bool true)]) h3)
theorem e17 (g0 : Value) (e1 : Value) (r2 : Value) (h : Heap) (K : KQ) : wpA Tryz.prog 17 (anOf []) (bodyOf Tryz.f17) 1 (fun A h => resA Tryz.prog A h K [.tmp 6, .tmp 7]) (fun _ _ _ => False) (fun A h => resA Tryz.prog A h K [.tmp 6, .tmp 7]) (aargs [g0, e1, r2] 0) h = t17 Tryz.prog g0 e1 r2 h K := by kernel_rfl
theorem c17 (g0 : Value) (e1 : Value) (r2 : Value) (h : Heap) (K : KQ) (H : t17 Tryz.prog g0 e1 r2 h K) : callM Tryz.prog 17 #[g0, e1, r2] h K :=
  callM_of_wpA mixed (fn := Tryz.f17) Tryz.func17 (c := bodyOf Tryz.f17) rfl (of_decide_eq_true (by kernel_rfl)) (anOf []) 14 17 (by kernel_rfl) rfl [.tmp 6, .tmp 7] (by kernel_rfl) (args := [g0, e1, r2]) (by rw [e17]; exact H)
def t26 (P : Program) (z0 : Value) (h : Heap) (K : KQ) : Prop :=
 eop P (Instr.alloc 26 true (.tuple #[])) h fun s2 h1 =>
 eop P (Instr.alloc 48 true (.tuple #[])) h1 fun s3 h2 =>
 callM P 73 #[z0] h2 fun s5 h3 =>
 pop P (extract s5 0) fun s6 =>
 pop P (extract s5 1) fun s7 =>
 uop P (Instr.storeAt 26 s2 s6) h3 fun q1 h4 =>
 uop P (Instr.storeAt 48 s3 s7) h4 fun q2 h5 =>
 rop P (loadAt 26 s2) h5 fun r_1 =>
 rop P (loadAt 48 s3) h5 fun r_2 =>
 K (.tuple #[r_1, r_2]) h5
theorem e26 (z0 : Value) (h : Heap) (K : KQ) : wpA Tryz.prog 8 (anOf []) (bodyOf Tryz.f26) 1 (fun A h => resA Tryz.prog A h K [.cell 2 26, .cell 3 48]) (fun _ _ _ => False) (fun A h => resA Tryz.prog A h K [.cell 2 26, .cell 3 48]) (aargs [z0] 0) h = t26 Tryz.prog z0 h K := by kernel_rfl
theorem c26 (z0 : Value) (h : Heap) (K : KQ) (H : t26 Tryz.prog z0 h K) : callM Tryz.prog 26 #[z0] h K :=
  callM_of_wpA mixed (fn := Tryz.f26) Tryz.func26 (c := bodyOf Tryz.f26) rfl (of_decide_eq_true (by kernel_rfl)) (anOf []) 7 8 (by kernel_rfl) rfl [.cell 2 26, .cell 3 48] (by kernel_rfl) (args := [z0]) (by rw [e26]; exact H)
def t27 (P : Program) (g0 : Value) (w1 : Value) (h : Heap) (K : KQ) : Prop :=
 eop P (Instr.box 26 g0) h fun g2 h1 =>
 eop P (Instr.box 48 w1) h1 fun w3 h2 =>
 rop P (loadAt 26 g2) h2 fun s6 =>
 rop P (loadAt 48 w3) h2 fun s7 =>
 callM P 74 #[s6, s7] h2 fun s8 h3 =>
 pop P (Op.unary .not s8) fun s9 =>
 condM s9
 (K (.tuple #[(Value.bool false), (Value.bool false)]) h3)
 (rop P (loadAt 26 g2) h3 fun s10 =>
 rop P (loadAt 48 w3) h3 fun s11 =>
 callM P 75 #[s10, s11] h3 fun s12 h4 =>
 K (.tuple #[s12, (Value.bool true)]) h4)
theorem e27 (g0 : Value) (w1 : Value) (h : Heap) (K : KQ) : wpA Tryz.prog 13 (anOf []) (bodyOf Tryz.f27) 1 (fun A h => resA Tryz.prog A h K [.tmp 4, .tmp 5]) (fun _ _ _ => False) (fun A h => resA Tryz.prog A h K [.tmp 4, .tmp 5]) (aargs [g0, w1] 0) h = t27 Tryz.prog g0 w1 h K := by kernel_rfl
theorem c27 (g0 : Value) (w1 : Value) (h : Heap) (K : KQ) (H : t27 Tryz.prog g0 w1 h K) : callM Tryz.prog 27 #[g0, w1] h K :=
  callM_of_wpA mixed (fn := Tryz.f27) Tryz.func27 (c := bodyOf Tryz.f27) rfl (of_decide_eq_true (by kernel_rfl)) (anOf []) 11 13 (by kernel_rfl) rfl [.tmp 4, .tmp 5] (by kernel_rfl) (args := [g0, w1]) (by rw [e27]; exact H)
def t28 (P : Program) (g0 : Value) (w1 : Value) (h : Heap) (K : KQ) : Prop :=
 eop P (Instr.box 26 g0) h fun g2 h1 =>
 eop P (Instr.box 48 w1) h1 fun w3 h2 =>
 rop P (loadAt 26 g2) h2 fun s6 =>
 rop P (loadAt 48 w3) h2 fun s7 =>
 callM P 76 #[s6, s7] h2 fun s8 h3 =>
 pop P (Op.unary .not s8) fun s9 =>
 condM s9
 (K (.tuple #[(Value.bool false), (Value.bool false)]) h3)
 (rop P (loadAt 26 g2) h3 fun s10 =>
 rop P (loadAt 48 w3) h3 fun s11 =>
 callM P 77 #[s10, s11] h3 fun s12 h4 =>
 K (.tuple #[s12, (Value.bool true)]) h4)
theorem e28 (g0 : Value) (w1 : Value) (h : Heap) (K : KQ) : wpA Tryz.prog 13 (anOf []) (bodyOf Tryz.f28) 1 (fun A h => resA Tryz.prog A h K [.tmp 4, .tmp 5]) (fun _ _ _ => False) (fun A h => resA Tryz.prog A h K [.tmp 4, .tmp 5]) (aargs [g0, w1] 0) h = t28 Tryz.prog g0 w1 h K := by kernel_rfl
theorem c28 (g0 : Value) (w1 : Value) (h : Heap) (K : KQ) (H : t28 Tryz.prog g0 w1 h K) : callM Tryz.prog 28 #[g0, w1] h K :=
  callM_of_wpA mixed (fn := Tryz.f28) Tryz.func28 (c := bodyOf Tryz.f28) rfl (of_decide_eq_true (by kernel_rfl)) (anOf []) 11 13 (by kernel_rfl) rfl [.tmp 4, .tmp 5] (by kernel_rfl) (args := [g0, w1]) (by rw [e28]; exact H)
def t29 (P : Program) (g0 : Value) (w1 : Value) (h : Heap) (K : KQ) : Prop :=
 eop P (Instr.box 26 g0) h fun g2 h1 =>
 eop P (Instr.box 48 w1) h1 fun w3 h2 =>
 rop P (loadAt 26 g2) h2 fun s7 =>
 rop P (loadAt 48 w3) h2 fun s8 =>
 callM P 74 #[s7, s8] h2 fun s9 h3 =>
 pop P (Op.unary .not s9) fun s10 =>
 guardM (asG s10 false) false (fun k_1 => rop P (loadAt 26 g2) h3 fun s12 =>
 k_1 s12 h3) h3 fun s12b h4 =>
 guardM (asG s10 false) false (fun k_2 => rop P (loadAt 48 w3) h4 fun s13 =>
 k_2 s13 h4) h4 fun s13b h5 =>
 guardM (asG s10 false) false (fun k_3 => callM P 75 #[s12b, s13b] h5 fun s14 h6 =>
 k_3 s14 h6) h5 fun s14b h7 =>
 guardM (asG s10 false) false (fun k_4 => pop P (Op.unary .not s14b) fun s15 =>
 k_4 s15 h7) h7 fun s15b h8 =>
 pop P (pickS s10 (Value.bool true) s15b) fun s16 =>
 condM s16
 (K (.tuple #[(Value.slice none 0 0), (Value.bool false)]) h8)
 (pop P (Instr.fieldAt 48 w3 0) fun s17 =>
 rop P (loadAt 29 s17) h8 fun s18 =>
 callM P 78 #[s18] h8 fun s19 h9 =>
 pop P (Instr.fieldAt 48 w3 1) fun s21 =>
 rop P (loadAt 3 s21) h9 fun s22 =>
 pop P (Instr.indexAt 29 s19 s22) fun s23 =>
 uop P (Instr.storeAt 3 s23 (.int .i64 0)) h9 fun q1 h10 =>
 K (.tuple #[s19, (Value.bool true)]) h10)
theorem e29 (g0 : Value) (w1 : Value) (h : Heap) (K : KQ) : wpA Tryz.prog 25 (anOf []) (bodyOf Tryz.f29) 1 (fun A h => resA Tryz.prog A h K [.tmp 4, .tmp 5]) (fun _ _ _ => False) (fun A h => resA Tryz.prog A h K [.tmp 4, .tmp 5]) (aargs [g0, w1] 0) h = t29 Tryz.prog g0 w1 h K := by kernel_rfl
theorem c29 (g0 : Value) (w1 : Value) (h : Heap) (K : KQ) (H : t29 Tryz.prog g0 w1 h K) : callM Tryz.prog 29 #[g0, w1] h K :=
  callM_of_wpA mixed (fn := Tryz.f29) Tryz.func29 (c := bodyOf Tryz.f29) rfl (of_decide_eq_true (by kernel_rfl)) (anOf []) 23 25 (by kernel_rfl) rfl [.tmp 4, .tmp 5] (by kernel_rfl) (args := [g0, w1]) (by rw [e29]; exact H)
def t30 (P : Program) (g0 : Value) (w1 : Value) (h : Heap) (K : KQ) : Prop :=
 eop P (Instr.box 26 g0) h fun g2 h1 =>
 eop P (Instr.box 48 w1) h1 fun w3 h2 =>
 rop P (loadAt 26 g2) h2 fun s7 =>
 rop P (loadAt 48 w3) h2 fun s8 =>
 callM P 76 #[s7, s8] h2 fun s9 h3 =>
 pop P (Op.unary .not s9) fun s10 =>
 guardM (asG s10 false) false (fun k_1 => rop P (loadAt 26 g2) h3 fun s12 =>
 k_1 s12 h3) h3 fun s12b h4 =>
 guardM (asG s10 false) false (fun k_2 => rop P (loadAt 48 w3) h4 fun s13 =>
 k_2 s13 h4) h4 fun s13b h5 =>
 guardM (asG s10 false) false (fun k_3 => callM P 77 #[s12b, s13b] h5 fun s14 h6 =>
 k_3 s14 h6) h5 fun s14b h7 =>
 guardM (asG s10 false) false (fun k_4 => pop P (Op.unary .not s14b) fun s15 =>
 k_4 s15 h7) h7 fun s15b h8 =>
 pop P (pickS s10 (Value.bool true) s15b) fun s16 =>
 condM s16
 (K (.tuple #[(Value.slice none 0 0), (Value.bool false)]) h8)
 (pop P (Instr.fieldAt 48 w3 0) fun s17 =>
 rop P (loadAt 29 s17) h8 fun s18 =>
 callM P 79 #[s18] h8 fun s19 h9 =>
 pop P (Instr.fieldAt 48 w3 1) fun s21 =>
 rop P (loadAt 3 s21) h9 fun s22 =>
 pop P (Instr.indexAt 29 s19 s22) fun s23 =>
 uop P (Instr.storeAt 3 s23 (.int .i64 0)) h9 fun q1 h10 =>
 K (.tuple #[s19, (Value.bool true)]) h10)
theorem e30 (g0 : Value) (w1 : Value) (h : Heap) (K : KQ) : wpA Tryz.prog 25 (anOf []) (bodyOf Tryz.f30) 1 (fun A h => resA Tryz.prog A h K [.tmp 4, .tmp 5]) (fun _ _ _ => False) (fun A h => resA Tryz.prog A h K [.tmp 4, .tmp 5]) (aargs [g0, w1] 0) h = t30 Tryz.prog g0 w1 h K := by kernel_rfl
theorem c30 (g0 : Value) (w1 : Value) (h : Heap) (K : KQ) (H : t30 Tryz.prog g0 w1 h K) : callM Tryz.prog 30 #[g0, w1] h K :=
  callM_of_wpA mixed (fn := Tryz.f30) Tryz.func30 (c := bodyOf Tryz.f30) rfl (of_decide_eq_true (by kernel_rfl)) (anOf []) 23 25 (by kernel_rfl) rfl [.tmp 4, .tmp 5] (by kernel_rfl) (args := [g0, w1]) (by rw [e30]; exact H)
def t31 (P : Program) (g0 : Value) (w1 : Value) (h : Heap) (K : KQ) : Prop :=
 eop P (Instr.box 26 g0) h fun g2 h1 =>
 eop P (Instr.box 48 w1) h1 fun w3 h2 =>
 rop P (loadAt 26 g2) h2 fun s6 =>
 rop P (loadAt 48 w3) h2 fun s7 =>
 callM P 74 #[s6, s7] h2 fun s8 h3 =>
 pop P (Op.unary .not s8) fun s9 =>
 condM s9
 (K (.tuple #[(Value.slice none 0 0), (Value.bool false)]) h3)
 (rop P (loadAt 26 g2) h3 fun s10 =>
 pop P (Instr.fieldAt 48 w3 0) fun s11 =>
 rop P (loadAt 29 s11) h3 fun s12 =>
 pop P (Instr.fieldAt 48 w3 1) fun s13 =>
 rop P (loadAt 3 s13) h3 fun s14 =>
 callM P 80 #[s10, s12, s14] h3 fun s15 h4 =>
 pop P (extract s15 0) fun s16 =>
 pop P (extract s15 1) fun s17 =>
 K (.tuple #[s16, s17]) h4)
theorem e31 (g0 : Value) (w1 : Value) (h : Heap) (K : KQ) : wpA Tryz.prog 18 (anOf []) (bodyOf Tryz.f31) 1 (fun A h => resA Tryz.prog A h K [.tmp 4, .tmp 5]) (fun _ _ _ => False) (fun A h => resA Tryz.prog A h K [.tmp 4, .tmp 5]) (aargs [g0, w1] 0) h = t31 Tryz.prog g0 w1 h K := by kernel_rfl
theorem c31 (g0 : Value) (w1 : Value) (h : Heap) (K : KQ) (H : t31 Tryz.prog g0 w1 h K) : callM Tryz.prog 31 #[g0, w1] h K :=
  callM_of_wpA mixed (fn := Tryz.f31) Tryz.func31 (c := bodyOf Tryz.f31) rfl (of_decide_eq_true (by kernel_rfl)) (anOf []) 16 18 (by kernel_rfl) rfl [.tmp 4, .tmp 5] (by kernel_rfl) (args := [g0, w1]) (by rw [e31]; exact H)
def t32 (P : Program) (g0 : Value) (w1 : Value) (h : Heap) (K : KQ) : Prop :=
 eop P (Instr.box 26 g0) h fun g2 h1 =>
 eop P (Instr.box 48 w1) h1 fun w3 h2 =>
 rop P (loadAt 26 g2) h2 fun s6 =>
 rop P (loadAt 48 w3) h2 fun s7 =>
 callM P 76 #[s6, s7] h2 fun s8 h3 =>
 pop P (Op.unary .not s8) fun s9 =>
 condM s9
 (K (.tuple #[(Value.slice none 0 0), (Value.bool false)]) h3)
 (rop P (loadAt 26 g2) h3 fun s10 =>
 rop P (loadAt 48 w3) h3 fun s11 =>
 callM P 81 #[s10, s11] h3 fun s12 h4 =>
 pop P (extract s12 0) fun s13 =>
 pop P (extract s12 1) fun s14 =>
 K (.tuple #[s13, s14]) h4)
theorem e32 (g0 : Value) (w1 : Value) (h : Heap) (K : KQ) : wpA Tryz.prog 15 (anOf []) (bodyOf Tryz.f32) 1 (fun A h => resA Tryz.prog A h K [.tmp 4, .tmp 5]) (fun _ _ _ => False) (fun A h => resA Tryz.prog A h K [.tmp 4, .tmp 5]) (aargs [g0, w1] 0) h = t32 Tryz.prog g0 w1 h K := by kernel_rfl
theorem c32 (g0 : Value) (w1 : Value) (h : Heap) (K : KQ) (H : t32 Tryz.prog g0 w1 h K) : callM Tryz.prog 32 #[g0, w1] h K :=
  callM_of_wpA mixed (fn := Tryz.f32) Tryz.func32 (c := bodyOf Tryz.f32) rfl (of_decide_eq_true (by kernel_rfl)) (anOf []) 13 15 (by kernel_rfl) rfl [.tmp 4, .tmp 5] (by kernel_rfl) (args := [g0, w1]) (by rw [e32]; exact H)
def t33 (P : Program) (g0 : Value) (w1 : Value) (h : Heap) (K : KQ) : Prop :=
 eop P (Instr.box 26 g0) h fun g2 h1 =>
 eop P (Instr.box 48 w1) h1 fun w3 h2 =>
 rop P (loadAt 26 g2) h2 fun s6 =>
 rop P (loadAt 48 w3) h2 fun s7 =>
 callM P 74 #[s6, s7] h2 fun s8 h3 =>
 pop P (Op.unary .not s8) fun s9 =>
 condM s9
 (K (.tuple #[(.int .i64 0), (Value.bool false)]) h3)
 (rop P (loadAt 26 g2) h3 fun s10 =>
 rop P (loadAt 48 w3) h3 fun s11 =>
 rop P (loadAt 26 g2) h3 fun s12 =>
 pop P (Instr.makeFunc (Fn.func 75) #[s12] #[]) fun s13 =>
 callM P 82 #[s10, s11, (.int .i64 0), s13] h3 fun s14 h4 =>
 pop P (extract s14 0) fun s15 =>
 pop P (extract s14 1) fun s16 =>
 K (.tuple #[s15, s16]) h4)
theorem e33 (g0 : Value) (w1 : Value) (h : Heap) (K : KQ) : wpA Tryz.prog 17 (anOf []) (bodyOf Tryz.f33) 1 (fun A h => resA Tryz.prog A h K [.tmp 4, .tmp 5]) (fun _ _ _ => False) (fun A h => resA Tryz.prog A h K [.tmp 4, .tmp 5]) (aargs [g0, w1] 0) h = t33 Tryz.prog g0 w1 h K := by kernel_rfl
theorem c33 (g0 : Value) (w1 : Value) (h : Heap) (K : KQ) (H : t33 Tryz.prog g0 w1 h K) : callM Tryz.prog 33 #[g0, w1] h K :=
  callM_of_wpA mixed (fn := Tryz.f33) Tryz.func33 (c := bodyOf Tryz.f33) rfl (of_decide_eq_true (by kernel_rfl)) (anOf []) 15 17 (by kernel_rfl) rfl [.tmp 4, .tmp 5] (by kernel_rfl) (args := [g0, w1]) (by rw [e33]; exact H)
def t34 (P : Program) (g0 : Value) (w1 : Value) (h : Heap) (K : KQ) : Prop :=
 eop P (Instr.box 26 g0) h fun g2 h1 =>
 eop P (Instr.box 48 w1) h1 fun w3 h2 =>
 rop P (loadAt 26 g2) h2 fun s9 =>
 rop P (loadAt 48 w3) h2 fun s10 =>
 callM P 76 #[s9, s10] h2 fun s11 h3 =>
 pop P (Op.unary .not s11) fun s12 =>
 condM s12
 (K (.tuple #[(.int .i64 0), (Value.bool false)]) h3)
 (∃ (I1 : List Value -> Heap -> Prop) (μ_1 : List Value -> Heap -> Nat), I1 [(.int .i64 0)] h3 /\
 ∀ (junk1 : Nat -> Value) (n6 : Value) (h4 : Heap), I1 [n6] h4 ->
 pop P (binA .leq 3 n6 (.int .i64 2000)) fun s14 =>
 condM s14
 (rop P (loadAt 26 g2) h4 fun s17 =>
 rop P (loadAt 48 w3) h4 fun s18 =>
 callM P 77 #[s17, s18] h4 fun s19 h5 =>
 condM s19
 (K (.tuple #[n6, (Value.bool true)]) h5)
 (rop P (loadAt 26 g2) h5 fun s22 =>
 rop P (loadAt 48 w3) h5 fun s23 =>
 callM P 83 #[s22, s23] h5 fun s24 h6 =>
 pop P (extract s24 0) fun s25 =>
 pop P (extract s24 1) fun s26 =>
 eop P (Instr.alloc 48 true (.tuple #[])) h6 fun n7 h7 =>
 uop P (Instr.storeAt 48 n7 s25) h7 fun q1 h8 =>
 pop P (Op.unary .not s26) fun s28 =>
 condM s28
 (K (.tuple #[(.int .i64 0), (Value.bool false)]) h8)
 (rop P (loadAt 48 n7) h8 fun s29 =>
 uop P (Instr.storeAt 48 w3 s29) h8 fun q2 h9 =>
 pop P (binA .add 3 n6 (.int .i64 1)) fun s16 =>
 I1 [s16] h9 /\ μ_1 [s16] h9 < μ_1 [n6] h4)))
 (K (.tuple #[(.int .i64 0), (Value.bool false)]) h4))
theorem e34 (g0 : Value) (w1 : Value) (h : Heap) (K : KQ) : wpA Tryz.prog 30 (anOf [(58, [6])]) (bodyOf Tryz.f34) 1 (fun A h => resA Tryz.prog A h K [.tmp 4, .tmp 5]) (fun _ _ _ => False) (fun A h => resA Tryz.prog A h K [.tmp 4, .tmp 5]) (aargs [g0, w1] 0) h = t34 Tryz.prog g0 w1 h K := by kernel_rfl
theorem c34 (g0 : Value) (w1 : Value) (h : Heap) (K : KQ) (H : t34 Tryz.prog g0 w1 h K) : callM Tryz.prog 34 #[g0, w1] h K :=
  callM_of_wpA mixed (fn := Tryz.f34) Tryz.func34 (c := bodyOf Tryz.f34) rfl (of_decide_eq_true (by kernel_rfl)) (anOf [(58, [6])]) 28 30 (by kernel_rfl) rfl [.tmp 4, .tmp 5] (by kernel_rfl) (args := [g0, w1]) (by rw [e34]; exact H)
def t35 (P : Program) (g0 : Value) (e1 : Value) (r2 : Value) (k3 : Value) (h : Heap) (K : KQ) : Prop :=
 eop P (Instr.box 26 g0) h fun g4 h1 =>
 eop P (Instr.alloc 48 true (.tuple #[])) h1 fun s8 h2 =>
 rop P (loadAt 26 g4) h2 fun s11 =>
 callM P 62 #[s11, e1, r2] h2 fun s14 h3 =>
 pop P (Op.unary .not s14) fun s15 =>
 guardM (asG s15 false) false (fun k_1 => rop P (loadAt 26 g4) h3 fun s17 =>
 k_1 s17 h3) h3 fun s17b h4 =>
 guardM (asG s15 false) false (fun k_2 => k_2 e1 h4) h4 fun s18 h5 =>
 guardM (asG s15 false) false (fun k_3 => k_3 r2 h5) h5 fun s19 h6 =>
 guardM (asG s15 false) false (fun k_4 => callM P 63 #[s17b, s18, s19] h6 fun s20 h7 =>
 k_4 s20 h7) h6 fun s20b h8 =>
 guardM (asG s15 false) false (fun k_5 => pop P (Op.unary .not s20b) fun s21 =>
 k_5 s21 h8) h8 fun s21b h9 =>
 pop P (pickS s15 (Value.bool true) s21b) fun s22 =>
 guardM (asG s22 false) false (fun k_6 => k_6 k3 h9) h9 fun s24 h10 =>
 guardM (asG s22 false) false (fun k_7 => pop P (Instr.fieldAt 26 g4 0) fun s25 =>
 k_7 s25 h10) h10 fun s25b h11 =>
 guardM (asG s22 false) false (fun k_8 => rop P (loadAt 24 s25b) h11 fun s26 =>
 k_8 s26 h11) h11 fun s26b h12 =>
 guardM (asG s22 false) false (fun k_9 => k_9 e1 h12) h12 fun s27 h13 =>
 guardM (asG s22 false) false (fun k_10 => pop P (Instr.indexAt 24 s26b s27) fun s28 =>
 k_10 s28 h13) h13 fun s28b h14 =>
 guardM (asG s22 false) false (fun k_11 => rop P (loadAt 29 s28b) h14 fun s29 =>
 k_11 s29 h14) h14 fun s29b h15 =>
 guardM (asG s22 false) false (fun k_12 => pop P (lenS 29 3 s29b) fun s30 =>
 k_12 s30 h15) h15 fun s30b h16 =>
 guardM (asG s22 false) false (fun k_13 => pop P (binA .sub 3 s30b (.int .i64 1)) fun s31 =>
 k_13 s31 h16) h16 fun s31b h17 =>
 guardM (asG s22 false) false (fun k_14 => callM P 84 #[s24, (.int .i64 0), s31b] h17 fun s32 h18 =>
 k_14 s32 h18) h17 fun s32b h19 =>
 guardM (asG s22 false) false (fun k_15 => pop P (Op.unary .not s32b) fun s33 =>
 k_15 s33 h19) h19 fun s33b h20 =>
 pop P (pickS s22 (Value.bool true) s33b) fun s34 =>
 condM s34
 (pop P (Instr.build 48 #[]) fun s35 =>
 uop P (Instr.storeAt 48 s8 s35) h20 fun q1 h21 =>
 rop P (loadAt 48 s8) h21 fun r_1 =>
 K (.tuple #[r_1, (Value.bool false)]) h21)
 (callM P 78 #[r2] h20 fun s37 h22 =>
 pop P (Instr.build 48 #[(0, s37), (1, e1)]) fun s39 =>
 eop P (Instr.alloc 48 true (.tuple #[])) h22 fun o10 h23 =>
 uop P (Instr.storeAt 48 o10 s39) h23 fun q2 h24 =>
 pop P (Instr.fieldAt 48 o10 0) fun s40 =>
 rop P (loadAt 29 s40) h24 fun s41 =>
 pop P (Instr.indexAt 29 s41 e1) fun s44 =>
 uop P (Instr.storeAt 3 s44 k3) h24 fun q3 h25 =>
 rop P (loadAt 48 o10) h25 fun s45 =>
 uop P (Instr.storeAt 48 s8 s45) h25 fun q4 h26 =>
 rop P (loadAt 48 s8) h26 fun r_2 =>
 K (.tuple #[r_2, (Value.bool true)]) h26)
theorem e35 (g0 : Value) (e1 : Value) (r2 : Value) (k3 : Value) (h : Heap) (K : KQ) : wpA Tryz.prog 46 (anOf []) (bodyOf Tryz.f35) 1 (fun A h => resA Tryz.prog A h K [.cell 8 48, .tmp 9]) (fun _ _ _ => False) (fun A h => resA Tryz.prog A h K [.cell 8 48, .tmp 9]) (aargs [g0, e1, r2, k3] 0) h = t35 Tryz.prog g0 e1 r2 k3 h K := by kernel_rfl
theorem c35 (g0 : Value) (e1 : Value) (r2 : Value) (k3 : Value) (h : Heap) (K : KQ) (H : t35 Tryz.prog g0 e1 r2 k3 h K) : callM Tryz.prog 35 #[g0, e1, r2, k3] h K :=
  callM_of_wpA mixed (fn := Tryz.f35) Tryz.func35 (c := bodyOf Tryz.f35) rfl (of_decide_eq_true (by kernel_rfl)) (anOf []) 42 46 (by kernel_rfl) rfl [.cell 8 48, .tmp 9] (by kernel_rfl) (args := [g0, e1, r2, k3]) (by rw [e35]; exact H)
def t36 (P : Program) (g0 : Value) (w1 : Value) (h : Heap) (K : KQ) : Prop :=
 eop P (Instr.box 26 g0) h fun g2 h1 =>
 eop P (Instr.box 48 w1) h1 fun w3 h2 =>
 eop P (Instr.alloc 48 true (.tuple #[])) h2 fun s4 h3 =>
 rop P (loadAt 26 g2) h3 fun s6 =>
 rop P (loadAt 48 w3) h3 fun s7 =>
 callM P 39 #[s6, s7, (.int .i64 1)] h3 fun s8 h4 =>
 pop P (extract s8 0) fun s9 =>
 pop P (extract s8 1) fun s10 =>
 uop P (Instr.storeAt 48 s4 s9) h4 fun q1 h5 =>
 rop P (loadAt 48 s4) h5 fun r_1 =>
 K (.tuple #[r_1, s10]) h5
theorem e36 (g0 : Value) (w1 : Value) (h : Heap) (K : KQ) : wpA Tryz.prog 11 (anOf []) (bodyOf Tryz.f36) 1 (fun A h => resA Tryz.prog A h K [.cell 4 48, .tmp 5]) (fun _ _ _ => False) (fun A h => resA Tryz.prog A h K [.cell 4 48, .tmp 5]) (aargs [g0, w1] 0) h = t36 Tryz.prog g0 w1 h K := by kernel_rfl
theorem c36 (g0 : Value) (w1 : Value) (h : Heap) (K : KQ) (H : t36 Tryz.prog g0 w1 h K) : callM Tryz.prog 36 #[g0, w1] h K :=
  callM_of_wpA mixed (fn := Tryz.f36) Tryz.func36 (c := bodyOf Tryz.f36) rfl (of_decide_eq_true (by kernel_rfl)) (anOf []) 9 11 (by kernel_rfl) rfl [.cell 4 48, .tmp 5] (by kernel_rfl) (args := [g0, w1]) (by rw [e36]; exact H)
def t37 (P : Program) (a0 : Value) (z1 : Value) (h : Heap) (K : KQ) : Prop :=
 eop P (Instr.box 48 a0) h fun a2 h1 =>
 eop P (Instr.box 48 z1) h1 fun z3 h2 =>
 pop P (Instr.fieldAt 48 a2 1) fun s5 =>
 rop P (loadAt 3 s5) h2 fun s6 =>
 pop P (Instr.fieldAt 48 z3 1) fun s7 =>
 rop P (loadAt 3 s7) h2 fun s8 =>
 pop P (binE .eql 3 (.tmp 6) (.tmp 8) s6 s8) fun s9 =>
 guardM (asG s9 true) true (fun k_1 => pop P (Instr.fieldAt 48 a2 0) fun s11 =>
 k_1 s11 h2) h2 fun s11b h3 =>
 guardM (asG s9 true) true (fun k_2 => rop P (loadAt 29 s11b) h3 fun s12 =>
 k_2 s12 h3) h3 fun s12b h4 =>
 guardM (asG s9 true) true (fun k_3 => pop P (Instr.fieldAt 48 z3 0) fun s13 =>
 k_3 s13 h4) h4 fun s13b h5 =>
 guardM (asG s9 true) true (fun k_4 => rop P (loadAt 29 s13b) h5 fun s14 =>
 k_4 s14 h5) h5 fun s14b h6 =>
 guardM (asG s9 true) true (fun k_5 => callM P 16 #[s12b, s14b] h6 fun s15 h7 =>
 k_5 s15 h7) h6 fun s15b h8 =>
 pop P (pickS s9 s15b (Value.bool false)) fun s16 =>
 K s16 h8
theorem e37 (a0 : Value) (z1 : Value) (h : Heap) (K : KQ) : wpA Tryz.prog 17 (anOf []) (bodyOf Tryz.f37) 1 (fun A h => resA Tryz.prog A h K [.tmp 4]) (fun _ _ _ => False) (fun A h => resA Tryz.prog A h K [.tmp 4]) (aargs [a0, z1] 0) h = t37 Tryz.prog a0 z1 h K := by kernel_rfl
theorem c37 (a0 : Value) (z1 : Value) (h : Heap) (K : KQ) (H : t37 Tryz.prog a0 z1 h K) : callM Tryz.prog 37 #[a0, z1] h K :=
  callM_of_wpA mixed (fn := Tryz.f37) Tryz.func37 (c := bodyOf Tryz.f37) rfl (of_decide_eq_true (by kernel_rfl)) (anOf []) 15 17 (by kernel_rfl) rfl [.tmp 4] (by kernel_rfl) (args := [a0, z1]) (by rw [e37]; exact H)
def t38 (P : Program) (a0 : Value) (n1 : Value) (h : Heap) (K : KQ) : Prop :=
 pop P (lenS 29 3 a0) fun s8 =>
 ∃ (I1 : List Value -> Heap -> Prop) (μ_1 : List Value -> Heap -> Nat), I1 [(.int .i64 0)] h /\
 ∀ (junk1 : Nat -> Value) (s9 : Value) (h1 : Heap), I1 [s9] h1 ->
 pop P (binA .lss 3 s9 s8) fun s10 =>
 condM s10
 (pop P (Instr.indexAt 29 a0 s9) fun s11 =>
 rop P (loadAt 3 s11) h1 fun s12 =>
 pop P (binE .eql 3 (.tmp 13) (.tmp 14) s12 n1) fun s15 =>
 condM s15
 (K (Value.bool true) h1)
 (pop P (binA .add 3 s9 (.int .i64 1)) fun s16 =>
 I1 [s16] h1 /\ μ_1 [s16] h1 < μ_1 [s9] h1))
 (K (Value.bool false) h1)
theorem e38 (a0 : Value) (n1 : Value) (h : Heap) (K : KQ) : wpA Tryz.prog 17 (anOf [(26, [9])]) (bodyOf Tryz.f38) 1 (fun A h => resA Tryz.prog A h K [.tmp 4]) (fun _ _ _ => False) (fun A h => resA Tryz.prog A h K [.tmp 4]) (aargs [a0, n1] 0) h = t38 Tryz.prog a0 n1 h K := by kernel_rfl
theorem c38 (a0 : Value) (n1 : Value) (h : Heap) (K : KQ) (H : t38 Tryz.prog a0 n1 h K) : callM Tryz.prog 38 #[a0, n1] h K :=
  callM_of_wpA mixed (fn := Tryz.f38) Tryz.func38 (c := bodyOf Tryz.f38) rfl (of_decide_eq_true (by kernel_rfl)) (anOf [(26, [9])]) 15 17 (by kernel_rfl) rfl [.tmp 4] (by kernel_rfl) (args := [a0, n1]) (by rw [e38]; exact H)
def t39 (P : Program) (g0 : Value) (w1 : Value) (n2 : Value) (h : Heap) (K : KQ) : Prop :=
 eop P (Instr.box 26 g0) h fun g3 h1 =>
 eop P (Instr.box 48 w1) h1 fun w4_1 h2 =>
 eop P (Instr.alloc 48 true (.tuple #[])) h2 fun s6 h3 =>
 rop P (loadAt 26 g3) h3 fun s9 =>
 rop P (loadAt 48 w4_1) h3 fun s10 =>
 callM P 85 #[s9, s10, n2, (.int .i64 2000)] h3 fun s12 h4 =>
 pop P (Op.unary .not s12) fun s13 =>
 condM s13
 (pop P (Instr.build 48 #[]) fun s14 =>
 uop P (Instr.storeAt 48 s6 s14) h4 fun q1 h5 =>
 rop P (loadAt 48 s6) h5 fun r_1 =>
 K (.tuple #[r_1, (Value.bool false)]) h5)
 (rop P (loadAt 48 w4_1) h4 fun s15 =>
 callM P 86 #[s15] h4 fun s16 h6 =>
 eop P (Instr.alloc 48 true (.tuple #[])) h6 fun o8 h7 =>
 uop P (Instr.storeAt 48 o8 s16) h7 fun q2 h8 =>
 rop P (loadAt 26 g3) h8 fun s17 =>
 callM P 87 #[s17, o8, n2, (.func (.func 88) #[] #[])] h8 fun s19 h9 =>
 pop P (Op.unary .not s19) fun s20 =>
 condM s20
 (pop P (Instr.build 48 #[]) fun s21 =>
 uop P (Instr.storeAt 48 s6 s21) h9 fun q3 h10 =>
 rop P (loadAt 48 s6) h10 fun r_2 =>
 K (.tuple #[r_2, (Value.bool false)]) h10)
 (rop P (loadAt 48 o8) h9 fun s22 =>
 uop P (Instr.storeAt 48 s6 s22) h9 fun q4 h11 =>
 rop P (loadAt 48 s6) h11 fun r_3 =>
 K (.tuple #[r_3, (Value.bool true)]) h11))
theorem e39 (g0 : Value) (w1 : Value) (n2 : Value) (h : Heap) (K : KQ) : wpA Tryz.prog 23 (anOf []) (bodyOf Tryz.f39) 1 (fun A h => resA Tryz.prog A h K [.cell 6 48, .tmp 7]) (fun _ _ _ => False) (fun A h => resA Tryz.prog A h K [.cell 6 48, .tmp 7]) (aargs [g0, w1, n2] 0) h = t39 Tryz.prog g0 w1 n2 h K := by kernel_rfl
theorem c39 (g0 : Value) (w1 : Value) (n2 : Value) (h : Heap) (K : KQ) (H : t39 Tryz.prog g0 w1 n2 h K) : callM Tryz.prog 39 #[g0, w1, n2] h K :=
  callM_of_wpA mixed (fn := Tryz.f39) Tryz.func39 (c := bodyOf Tryz.f39) rfl (of_decide_eq_true (by kernel_rfl)) (anOf []) 20 23 (by kernel_rfl) rfl [.cell 6 48, .tmp 7] (by kernel_rfl) (args := [g0, w1, n2]) (by rw [e39]; exact H)
def t40 (P : Program) (z0 : Value) (h : Heap) (K : KQ) : Prop :=
 eop P (Instr.alloc 26 true (.tuple #[])) h fun s2 h1 =>
 callM P 89 #[z0] h1 fun s4 h2 =>
 uop P (Instr.storeAt 26 s2 s4) h2 fun q1 h3 =>
 rop P (loadAt 26 s2) h3 fun r_1 =>
 K r_1 h3
theorem e40 (z0 : Value) (h : Heap) (K : KQ) : wpA Tryz.prog 5 (anOf []) (bodyOf Tryz.f40) 1 (fun A h => resA Tryz.prog A h K [.cell 2 26]) (fun _ _ _ => False) (fun A h => resA Tryz.prog A h K [.cell 2 26]) (aargs [z0] 0) h = t40 Tryz.prog z0 h K := by kernel_rfl
theorem c40 (z0 : Value) (h : Heap) (K : KQ) (H : t40 Tryz.prog z0 h K) : callM Tryz.prog 40 #[z0] h K :=
  callM_of_wpA mixed (fn := Tryz.f40) Tryz.func40 (c := bodyOf Tryz.f40) rfl (of_decide_eq_true (by kernel_rfl)) (anOf []) 4 5 (by kernel_rfl) rfl [.cell 2 26] (by kernel_rfl) (args := [z0]) (by rw [e40]; exact H)
def t41 (P : Program) (g0 : Value) (h : Heap) (K : KQ) : Prop :=
 eop P (Instr.box 26 g0) h fun g1 h1 =>
 rop P (loadAt 26 g1) h1 fun s6 =>
 callM P 68 #[s6] h1 fun s7 h2 =>
 pop P (Op.unary .not s7) fun s8 =>
 condM s8
 (K (.tuple #[(.int .i64 0), (Value.bool false)]) h2)
 (pop P (Instr.fieldAt 26 g1 0) fun s9 =>
 rop P (loadAt 24 s9) h2 fun s10 =>
 pop P (lenS 24 3 s10) fun s11 =>
 ∃ (I1 : List Value -> Heap -> Prop) (μ_1 : List Value -> Heap -> Nat), I1 [(.int .i64 0), (.int .i64 0)] h2 /\
 ∀ (junk1 : Nat -> Value) (m4 : Value) (s12 : Value) (h3 : Heap), I1 [m4, s12] h3 ->
 pop P (binA .lss 3 s12 s11) fun s13 =>
 condM s13
 (rop P (loadAt 26 g1) h3 fun s16 =>
 callM P 90 #[s16, s12] h3 fun s18 h4 =>
 pop P (binA .add 3 m4 s18) fun s19 =>
 pop P (binA .add 3 s12 (.int .i64 1)) fun s20 =>
 I1 [s19, s20] h4 /\ μ_1 [s19, s20] h4 < μ_1 [m4, s12] h3)
 (K (.tuple #[m4, (Value.bool true)]) h3))
theorem e41 (g0 : Value) (h : Heap) (K : KQ) : wpA Tryz.prog 22 (anOf [(122, [4, 12])]) (bodyOf Tryz.f41) 1 (fun A h => resA Tryz.prog A h K [.tmp 2, .tmp 3]) (fun _ _ _ => False) (fun A h => resA Tryz.prog A h K [.tmp 2, .tmp 3]) (aargs [g0] 0) h = t41 Tryz.prog g0 h K := by kernel_rfl
theorem c41 (g0 : Value) (h : Heap) (K : KQ) (H : t41 Tryz.prog g0 h K) : callM Tryz.prog 41 #[g0] h K :=
  callM_of_wpA mixed (fn := Tryz.f41) Tryz.func41 (c := bodyOf Tryz.f41) rfl (of_decide_eq_true (by kernel_rfl)) (anOf [(122, [4, 12])]) 21 22 (by kernel_rfl) rfl [.tmp 2, .tmp 3] (by kernel_rfl) (args := [g0]) (by rw [e41]; exact H)
def t42 (P : Program) (g0 : Value) (h : Heap) (K : KQ) : Prop :=
 eop P (Instr.box 26 g0) h fun g1 h1 =>
 rop P (loadAt 26 g1) h1 fun s7 =>
 callM P 91 #[s7] h1 fun s8 h2 =>
 pop P (Op.unary .not s8) fun s9 =>
 condM s9
 (K (.tuple #[(.int .i64 0), (Value.bool false)]) h2)
 (pop P (Instr.fieldAt 26 g1 0) fun s10 =>
 rop P (loadAt 24 s10) h2 fun s11 =>
 pop P (lenS 24 3 s11) fun s12 =>
 ∃ (I1 : List Value -> Heap -> Prop) (μ_1 : List Value -> Heap -> Nat), I1 [(.int .i64 0), (.int .i64 0)] h2 /\
 ∀ (junk1 : Nat -> Value) (y4 : Value) (s13 : Value) (h3 : Heap), I1 [y4, s13] h3 ->
 pop P (binA .lss 3 s13 s12) fun s14 =>
 condM s14
 (pop P (Instr.indexAt 24 s11 s13) fun s16 =>
 rop P (loadAt 29 s16) h3 fun s17 =>
 pop P (lenS 29 3 s17) fun s19 =>
 pop P (binA .gtr 3 s19 (.int .i64 0)) fun s20 =>
 condM s20
 (rop P (loadAt 26 g1) h3 fun s22 =>
 callM P 93 #[s22, s13] h3 fun s24 h4 =>
 callM P 92 #[s24] h4 fun s25 h5 =>
 pop P (lenS 29 3 s17) fun s27 =>
 pop P (binA .mul 3 s25 s27) fun s28 =>
 pop P (binA .add 3 y4 s28) fun s29 =>
 pop P (binA .add 3 s13 (.int .i64 1)) fun s30 =>
 I1 [s29, s30] h5 /\ μ_1 [s29, s30] h5 < μ_1 [y4, s13] h3)
 (pop P (binA .add 3 s13 (.int .i64 1)) fun s30b =>
 I1 [y4, s30b] h3 /\ μ_1 [y4, s30b] h3 < μ_1 [y4, s13] h3))
 (K (.tuple #[y4, (Value.bool true)]) h3))
theorem e42 (g0 : Value) (h : Heap) (K : KQ) : wpA Tryz.prog 32 (anOf [(122, [4, 13])]) (bodyOf Tryz.f42) 1 (fun A h => resA Tryz.prog A h K [.tmp 2, .tmp 3]) (fun _ _ _ => False) (fun A h => resA Tryz.prog A h K [.tmp 2, .tmp 3]) (aargs [g0] 0) h = t42 Tryz.prog g0 h K := by kernel_rfl
theorem c42 (g0 : Value) (h : Heap) (K : KQ) (H : t42 Tryz.prog g0 h K) : callM Tryz.prog 42 #[g0] h K :=
  callM_of_wpA mixed (fn := Tryz.f42) Tryz.func42 (c := bodyOf Tryz.f42) rfl (of_decide_eq_true (by kernel_rfl)) (anOf [(122, [4, 13])]) 31 32 (by kernel_rfl) rfl [.tmp 2, .tmp 3] (by kernel_rfl) (args := [g0]) (by rw [e42]; exact H)
def t43 (P : Program) (g0 : Value) (p1 : Value) (h : Heap) (K : KQ) : Prop :=
 eop P (Instr.box 26 g0) h fun g2 h1 =>
 eop P (Instr.box 3 p1) h1 fun p3 h2 =>
 rop P (loadAt 26 g2) h2 fun s7 =>
 rop P (loadAt 3 p3) h2 fun s8 =>
 eop P (buildSlice 29 1 #[(0, s8)]) h2 fun s9 h3 =>
 callM P 94 #[s7, s9] h3 fun s10 h4 =>
 pop P (Op.unary .not s10) fun s11 =>
 guardM (asG s11 false) false (fun k_1 => rop P (loadAt 26 g2) h4 fun s13 =>
 k_1 s13 h4) h4 fun s13b h5 =>
 guardM (asG s11 false) false (fun k_2 => rop P (loadAt 3 p3) h5 fun s14 =>
 k_2 s14 h5) h5 fun s14b h6 =>
 guardM (asG s11 false) false (fun k_3 => callM P 90 #[s13b, s14b] h6 fun s15 h7 =>
 k_3 s15 h7) h6 fun s15b h8 =>
 guardM (asG s11 false) false (fun k_4 => pop P (binA .gtr 3 s15b (.int .i64 300)) fun s16 =>
 k_4 s16 h8) h8 fun s16b h9 =>
 pop P (pickS s11 (Value.bool true) s16b) fun s17 =>
 condM s17
 (K (.tuple #[(Value.slice none 0 0), (Value.bool false)]) h9)
 (eop P (buildSlice 62 0 #[]) h9 fun s18 h10 =>
 eop P (Instr.alloc 62 true (.tuple #[])) h10 fun o6 h11 =>
 uop P (Instr.storeAt 62 o6 s18) h11 fun q1 h12 =>
 rop P (loadAt 26 g2) h12 fun s19 =>
 pop P (Instr.makeFunc (Fn.func 96) #[] #[p3, g2, o6]) fun s20 =>
 callM P 95 #[s19, (.int .i64 (-1)), s20] h12 fun s21 h13 =>
 rop P (loadAt 62 o6) h13 fun s22 =>
 K (.tuple #[s22, (Value.bool true)]) h13)
theorem e43 (g0 : Value) (p1 : Value) (h : Heap) (K : KQ) : wpA Tryz.prog 23 (anOf []) (bodyOf Tryz.f43) 1 (fun A h => resA Tryz.prog A h K [.tmp 4, .tmp 5]) (fun _ _ _ => False) (fun A h => resA Tryz.prog A h K [.tmp 4, .tmp 5]) (aargs [g0, p1] 0) h = t43 Tryz.prog g0 p1 h K := by kernel_rfl
theorem c43 (g0 : Value) (p1 : Value) (h : Heap) (K : KQ) (H : t43 Tryz.prog g0 p1 h K) : callM Tryz.prog 43 #[g0, p1] h K :=
  callM_of_wpA mixed (fn := Tryz.f43) Tryz.func43 (c := bodyOf Tryz.f43) rfl (of_decide_eq_true (by kernel_rfl)) (anOf []) 21 23 (by kernel_rfl) rfl [.tmp 4, .tmp 5] (by kernel_rfl) (args := [g0, p1]) (by rw [e43]; exact H)
def t44 (P : Program) (a0 : Value) (z1 : Value) (h : Heap) (K : KQ) : Prop :=
 pop P (lenS 29 3 a0) fun s7 =>
 ∃ (I1 : List Value -> Heap -> Prop) (μ_1 : List Value -> Heap -> Nat), I1 [(.int .i64 0)] h /\
 ∀ (junk1 : Nat -> Value) (s8 : Value) (h1 : Heap), I1 [s8] h1 ->
 pop P (binA .lss 3 s8 s7) fun s9 =>
 condM s9
 (pop P (Instr.indexAt 29 a0 s8) fun s13 =>
 rop P (loadAt 3 s13) h1 fun s14 =>
 pop P (Instr.indexAt 29 z1 s8) fun s17 =>
 rop P (loadAt 3 s17) h1 fun s18 =>
 pop P (binE .neq 3 (.tmp 14) (.tmp 18) s14 s18) fun s19 =>
 condM s19
 (pop P (Instr.indexAt 29 a0 s8) fun s22 =>
 rop P (loadAt 3 s22) h1 fun s23 =>
 pop P (Instr.indexAt 29 z1 s8) fun s26 =>
 rop P (loadAt 3 s26) h1 fun s27 =>
 pop P (binA .lss 3 s23 s27) fun s28 =>
 K s28 h1)
 (pop P (binA .add 3 s8 (.int .i64 1)) fun s29 =>
 I1 [s29] h1 /\ μ_1 [s29] h1 < μ_1 [s8] h1))
 (K (Value.bool false) h1)
theorem e44 (a0 : Value) (z1 : Value) (h : Heap) (K : KQ) : wpA Tryz.prog 30 (anOf [(26, [8])]) (bodyOf Tryz.f44) 1 (fun A h => resA Tryz.prog A h K [.tmp 4]) (fun _ _ _ => False) (fun A h => resA Tryz.prog A h K [.tmp 4]) (aargs [a0, z1] 0) h = t44 Tryz.prog a0 z1 h K := by kernel_rfl
theorem c44 (a0 : Value) (z1 : Value) (h : Heap) (K : KQ) (H : t44 Tryz.prog a0 z1 h K) : callM Tryz.prog 44 #[a0, z1] h K :=
  callM_of_wpA mixed (fn := Tryz.f44) Tryz.func44 (c := bodyOf Tryz.f44) rfl (of_decide_eq_true (by kernel_rfl)) (anOf [(26, [8])]) 28 30 (by kernel_rfl) rfl [.tmp 4] (by kernel_rfl) (args := [a0, z1]) (by rw [e44]; exact H)
def t45 (P : Program) (z0 : Value) (h : Heap) (K : KQ) : Prop :=
 eop P (Instr.alloc 26 true (.tuple #[])) h fun s2 h1 =>
 callM P 97 #[z0] h1 fun s5 h2 =>
 pop P (extract s5 0) fun s6 =>
 pop P (extract s5 1) fun s7 =>
 uop P (Instr.storeAt 26 s2 s6) h2 fun q1 h3 =>
 rop P (loadAt 26 s2) h3 fun r_1 =>
 K (.tuple #[r_1, s7]) h3
theorem e45 (z0 : Value) (h : Heap) (K : KQ) : wpA Tryz.prog 8 (anOf []) (bodyOf Tryz.f45) 1 (fun A h => resA Tryz.prog A h K [.cell 2 26, .tmp 3]) (fun _ _ _ => False) (fun A h => resA Tryz.prog A h K [.cell 2 26, .tmp 3]) (aargs [z0] 0) h = t45 Tryz.prog z0 h K := by kernel_rfl
theorem c45 (z0 : Value) (h : Heap) (K : KQ) (H : t45 Tryz.prog z0 h K) : callM Tryz.prog 45 #[z0] h K :=
  callM_of_wpA mixed (fn := Tryz.f45) Tryz.func45 (c := bodyOf Tryz.f45) rfl (of_decide_eq_true (by kernel_rfl)) (anOf []) 7 8 (by kernel_rfl) rfl [.cell 2 26, .tmp 3] (by kernel_rfl) (args := [z0]) (by rw [e45]; exact H)
def t46 (P : Program) (g0 : Value) (p1 : Value) (h : Heap) (K : KQ) : Prop :=
 eop P (Instr.box 26 g0) h fun g2 h1 =>
 rop P (loadAt 26 g2) h1 fun s13 =>
 callM P 98 #[s13, p1] h1 fun s15 h2 =>
 pop P (Op.unary .not s15) fun s16 =>
 guardM (asG s16 false) false (fun k_1 => rop P (loadAt 26 g2) h2 fun s18 =>
 k_1 s18 h2) h2 fun s18b h3 =>
 guardM (asG s16 false) false (fun k_2 => k_2 p1 h3) h3 fun s19 h4 =>
 guardM (asG s16 false) false (fun k_3 => pop P (Instr.fieldAt 26 g2 0) fun s22 =>
 k_3 s22 h4) h4 fun s22b h5 =>
 guardM (asG s16 false) false (fun k_4 => rop P (loadAt 24 s22b) h5 fun s23 =>
 k_4 s23 h5) h5 fun s23b h6 =>
 guardM (asG s16 false) false (fun k_5 => k_5 p1 h6) h6 fun s24 h7 =>
 guardM (asG s16 false) false (fun k_6 => pop P (Instr.indexAt 24 s23b s24) fun s25 =>
 k_6 s25 h7) h7 fun s25b h8 =>
 guardM (asG s16 false) false (fun k_7 => rop P (loadAt 29 s25b) h8 fun s26 =>
 k_7 s26 h8) h8 fun s26b h9 =>
 guardM (asG s16 false) false (fun k_8 => pop P (lenS 29 3 s26b) fun s27 =>
 k_8 s27 h9) h9 fun s27b h10 =>
 guardM (asG s16 false) false (fun k_9 => callM P 93 #[s18b, s19] h10 fun s20 h11 =>
 k_9 s20 h11) h10 fun s20b h12 =>
 (∃ b4 : Bool, asG s16 false = .bool b4 /\ (b4 = false -> ∀ w : World, w.heap = h12 -> (loadAt 29 s25b).run P w = .ok s26b w) /\ (b4 ≠ false -> s26b = undef)) /\
 (∃ b3 : Bool, asG s16 false = .bool b3 /\ (b3 = false -> ∀ w : World, w.heap = h12 -> (loadAt 24 s22b).run P w = .ok s23b w) /\ (b3 ≠ false -> s23b = undef)) /\
 guardM (asG s16 false) false (fun k_10 => callM P 92 #[s20b] h12 fun s21 h13 =>
 k_10 s21 h13) h12 fun s21b h14 =>
 (∃ b2 : Bool, asG s16 false = .bool b2 /\ (b2 = false -> ∀ w : World, w.heap = h14 -> (loadAt 29 s25b).run P w = .ok s26b w) /\ (b2 ≠ false -> s26b = undef)) /\
 (∃ b1 : Bool, asG s16 false = .bool b1 /\ (b1 = false -> ∀ w : World, w.heap = h14 -> (loadAt 24 s22b).run P w = .ok s23b w) /\ (b1 ≠ false -> s23b = undef)) /\
 guardM (asG s16 false) false (fun k_11 => pop P (binA .mul 3 s21b s27b) fun s28 =>
 k_11 s28 h14) h14 fun s28b h15 =>
 guardM (asG s16 false) false (fun k_12 => pop P (binA .gtr 3 s28b (.int .i64 300)) fun s29 =>
 k_12 s29 h15) h15 fun s29b h16 =>
 pop P (pickS s16 (Value.bool true) s29b) fun s30 =>
 condM s30
 (K (.tuple #[(Value.slice none 0 0), (Value.bool false)]) h16)
 (rop P (loadAt 26 g2) h16 fun s31 =>
 callM P 99 #[s31, p1, (.int .i64 300)] h16 fun s33 h17 =>
 pop P (lenS 24 3 s33) fun s34 =>
 ∃ (I1 : List Value -> Heap -> Prop) (μ_1 : List Value -> Heap -> Nat), I1 [(Value.slice none 0 0), (.int .i64 0)] h17 /\
 ∀ (junk1 : Nat -> Value) (o6 : Value) (s35 : Value) (h18 : Heap), I1 [o6, s35] h18 ->
 pop P (binA .lss 3 s35 s34) fun s36 =>
 condM s36
 (pop P (Instr.indexAt 24 s33 s35) fun s37 =>
 rop P (loadAt 29 s37) h18 fun s38 =>
 pop P (Instr.fieldAt 26 g2 0) fun s39 =>
 rop P (loadAt 24 s39) h18 fun s40 =>
 pop P (Instr.indexAt 24 s40 p1) fun s42 =>
 rop P (loadAt 29 s42) h18 fun s43 =>
 pop P (lenS 29 3 s43) fun s44 =>
 ∃ (I2 : List Value -> Heap -> Prop) (μ_2 : List Value -> Heap -> Nat), I2 [o6, (.int .i64 0)] h18 /\
 ∀ (junk2 : Nat -> Value) (o6a : Value) (s45 : Value) (h19 : Heap), I2 [o6a, s45] h19 ->
 pop P (binA .lss 3 s45 s44) fun s46 =>
 condM s46
 (callM P 79 #[s38] h19 fun s49 h20 =>
 pop P (Instr.build 48 #[(0, s49), (1, p1)]) fun s51 =>
 eop P (Instr.alloc 48 true (.tuple #[])) h20 fun w10 h21 =>
 uop P (Instr.storeAt 48 w10 s51) h21 fun q1 h22 =>
 pop P (Instr.fieldAt 48 w10 0) fun s52 =>
 rop P (loadAt 29 s52) h22 fun s53 =>
 pop P (Instr.indexAt 29 s53 p1) fun s56 =>
 uop P (Instr.storeAt 3 s56 s45) h22 fun q2 h23 =>
 ∃ (I3 : List Value -> Heap -> Prop) (μ_3 : List Value -> Heap -> Nat), I3 [(.int .i64 0)] h23 /\
 ∀ (junk3 : Nat -> Value) (i11 : Value) (h24 : Heap), I3 [i11] h24 ->
 pop P (lenS 62 3 o6a) fun s59 =>
 pop P (binA .lss 3 i11 s59) fun s60 =>
 guardM (asG s60 true) true (fun k_13 => k_13 o6a h24) h24 fun s62 h25 =>
 guardM (asG s60 true) true (fun k_14 => k_14 i11 h25) h25 fun s63 h26 =>
 guardM (asG s60 true) true (fun k_15 => pop P (Instr.indexAt 62 s62 s63) fun s64 =>
 k_15 s64 h26) h26 fun s64b h27 =>
 guardM (asG s60 true) true (fun k_16 => pop P (Instr.fieldAt 48 s64b 0) fun s65 =>
 k_16 s65 h27) h27 fun s65b h28 =>
 guardM (asG s60 true) true (fun k_17 => rop P (loadAt 29 s65b) h28 fun s66 =>
 k_17 s66 h28) h28 fun s66b h29 =>
 guardM (asG s60 true) true (fun k_18 => pop P (Instr.fieldAt 48 w10 0) fun s67 =>
 k_18 s67 h29) h29 fun s67b h30 =>
 guardM (asG s60 true) true (fun k_19 => rop P (loadAt 29 s67b) h30 fun s68 =>
 k_19 s68 h30) h30 fun s68b h31 =>
 guardM (asG s60 true) true (fun k_20 => callM P 100 #[s66b, s68b] h31 fun s69 h32 =>
 k_20 s69 h32) h31 fun s69b h33 =>
 pop P (pickS s60 s69b (Value.bool false)) fun s70 =>
 condM s70
 (pop P (binA .add 3 i11 (.int .i64 1)) fun s72 =>
 I3 [s72] h33 /\ μ_3 [s72] h33 < μ_3 [i11] h24)
 (∃ J1 : List Value -> Heap -> Prop, (pop P (Instr.sliceAt 62 o6a none (some i11) none) fun s76 =>
 rop P (loadAt 48 w10) h33 fun s78 =>
 (eop P (buildSlice 62 0 #[]) h33 fun s73 h34 =>
 (∀ w : World, w.heap = h34 -> (loadAt 48 w10).run P w = .ok s78 w) /\
 (eop P (appS 62 62 62 s73 s76) h34 fun s77 h35 =>
 (∀ w : World, w.heap = h35 -> (loadAt 48 w10).run P w = .ok s78 w) /\
 eop P (buildSlice 62 1 #[(0, s78)]) h35 fun s79 h36 =>
 eop P (appS 62 62 62 s77 s79) h36 fun s80 h37 =>
 J1 [s80] h37) /\
 (eop P (buildSlice 62 1 #[(0, s78)]) h34 fun s79b h38 =>
 eop P (appS 62 62 62 s73 s76) h38 fun s77b h39 =>
 eop P (appS 62 62 62 s77b s79b) h39 fun s80b h40 =>
 J1 [s80b] h40)) /\
 (eop P (buildSlice 62 1 #[(0, s78)]) h33 fun s79c h41 =>
 eop P (buildSlice 62 0 #[]) h41 fun s73b h42 =>
 eop P (appS 62 62 62 s73b s76) h42 fun s77c h43 =>
 eop P (appS 62 62 62 s77c s79c) h43 fun s80c h44 =>
 J1 [s80c] h44)) /\
 ∀ (junk4 : Nat -> Value) (n12 : Value) (h45 : Heap), J1 [n12] h45 ->
 pop P (Instr.sliceAt 62 o6a (some i11) none none) fun s84 =>
 eop P (appS 62 62 62 n12 s84) h45 fun s85 h46 =>
 pop P (binA .add 3 s45 (.int .i64 1)) fun s86 =>
 I2 [s85, s86] h46 /\ μ_2 [s85, s86] h46 < μ_2 [o6a, s45] h19))
 (pop P (binA .add 3 s35 (.int .i64 1)) fun s87 =>
 I1 [o6a, s87] h19 /\ μ_1 [o6a, s87] h19 < μ_1 [o6, s35] h18))
 (K (.tuple #[o6, (Value.bool true)]) h18))
theorem e46 (g0 : Value) (p1 : Value) (h : Heap) (K : KQ) : wpA Tryz.prog 89 (anOf [(122, [6, 35]), (31334, [6, 45]), (32086431, [12]), (64172860, [11])]) (bodyOf Tryz.f46) 1 (fun A h => resA Tryz.prog A h K [.tmp 4, .tmp 5]) (fun _ _ _ => False) (fun A h => resA Tryz.prog A h K [.tmp 4, .tmp 5]) (aargs [g0, p1] 0) h = t46 Tryz.prog g0 p1 h K := by kernel_rfl
theorem c46 (g0 : Value) (p1 : Value) (h : Heap) (K : KQ) (H : t46 Tryz.prog g0 p1 h K) : callM Tryz.prog 46 #[g0, p1] h K :=
  callM_of_wpA mixed (fn := Tryz.f46) Tryz.func46 (c := bodyOf Tryz.f46) rfl (of_decide_eq_true (by kernel_rfl)) (anOf [(122, [6, 35]), (31334, [6, 45]), (32086431, [12]), (64172860, [11])]) 87 89 (by kernel_rfl) rfl [.tmp 4, .tmp 5] (by kernel_rfl) (args := [g0, p1]) (by rw [e46]; exact H)
def t47 (P : Program) (z0 : Value) (h : Heap) (K : KQ) : Prop :=
 eop P (Instr.alloc 26 true (.tuple #[])) h fun s2 h1 =>
 pop P (Instr.build 74 #[(0, z0)]) fun s11 =>
 eop P (Instr.box 74 s11) h1 fun s12 h2 =>
 callM P 101 #[s12] h2 fun s15 h3 =>
 pop P (extract s15 0) fun s16 =>
 pop P (extract s15 1) fun s17 =>
 pop P (extract s15 2) fun s18 =>
 eop P (Instr.alloc 26 true (.tuple #[])) h3 fun g7 h4 =>
 uop P (Instr.storeAt 26 g7 s16) h4 fun q1 h5 =>
 rop P (loadAt 26 g7) h5 fun s19 =>
 callM P 52 #[s12, (.int .i64 5)] h5 fun s23 h6 =>
 (∀ w : World, w.heap = h6 -> (loadAt 26 g7).run P w = .ok s19 w) /\
 callM P 52 #[s12, (.int .i64 9)] h6 fun s25 h7 =>
 (∀ w : World, w.heap = h7 -> (loadAt 26 g7).run P w = .ok s19 w) /\
 pop P (binA .quo 3 s25 (.int .i64 8)) fun s26 =>
 pop P (binA .sub 3 s23 s26) fun s27 =>
 uop P (Instr.storeAt 26 s2 s19) h7 fun q2 h8 =>
 rop P (loadAt 26 s2) h8 fun r_1 =>
 K (.tuple #[r_1, s17, s18, s27]) h8
theorem e47 (z0 : Value) (h : Heap) (K : KQ) : wpA Tryz.prog 28 (anOf []) (bodyOf Tryz.f47) 1 (fun A h => resA Tryz.prog A h K [.cell 2 26, .tmp 3, .tmp 4, .tmp 5]) (fun _ _ _ => False) (fun A h => resA Tryz.prog A h K [.cell 2 26, .tmp 3, .tmp 4, .tmp 5]) (aargs [z0] 0) h = t47 Tryz.prog z0 h K := by kernel_rfl
theorem c47 (z0 : Value) (h : Heap) (K : KQ) (H : t47 Tryz.prog z0 h K) : callM Tryz.prog 47 #[z0] h K :=
  callM_of_wpA mixed (fn := Tryz.f47) Tryz.func47 (c := bodyOf Tryz.f47) rfl (of_decide_eq_true (by kernel_rfl)) (anOf []) 27 28 (by kernel_rfl) rfl [.cell 2 26, .tmp 3, .tmp 4, .tmp 5] (by kernel_rfl) (args := [z0]) (by rw [e47]; exact H)
def t48 (P : Program) (g0 : Value) (e1 : Value) (r2 : Value) (k3 : Value) (h : Heap) (K : KQ) : Prop :=
 eop P (Instr.box 26 g0) h fun g4 h1 =>
 eop P (Instr.alloc 48 true (.tuple #[])) h1 fun s8 h2 =>
 rop P (loadAt 26 g4) h2 fun s11 =>
 callM P 102 #[s11, e1, r2] h2 fun s14 h3 =>
 pop P (Op.unary .not s14) fun s15 =>
 guardM (asG s15 false) false (fun k_1 => rop P (loadAt 26 g4) h3 fun s17 =>
 k_1 s17 h3) h3 fun s17b h4 =>
 guardM (asG s15 false) false (fun k_2 => k_2 e1 h4) h4 fun s18 h5 =>
 guardM (asG s15 false) false (fun k_3 => k_3 r2 h5) h5 fun s19 h6 =>
 guardM (asG s15 false) false (fun k_4 => callM P 103 #[s17b, s18, s19] h6 fun s20 h7 =>
 k_4 s20 h7) h6 fun s20b h8 =>
 guardM (asG s15 false) false (fun k_5 => pop P (Op.unary .not s20b) fun s21 =>
 k_5 s21 h8) h8 fun s21b h9 =>
 pop P (pickS s15 (Value.bool true) s21b) fun s22 =>
 guardM (asG s22 false) false (fun k_6 => k_6 k3 h9) h9 fun s24 h10 =>
 guardM (asG s22 false) false (fun k_7 => pop P (Instr.fieldAt 26 g4 0) fun s25 =>
 k_7 s25 h10) h10 fun s25b h11 =>
 guardM (asG s22 false) false (fun k_8 => rop P (loadAt 24 s25b) h11 fun s26 =>
 k_8 s26 h11) h11 fun s26b h12 =>
 guardM (asG s22 false) false (fun k_9 => k_9 e1 h12) h12 fun s27 h13 =>
 guardM (asG s22 false) false (fun k_10 => pop P (Instr.indexAt 24 s26b s27) fun s28 =>
 k_10 s28 h13) h13 fun s28b h14 =>
 guardM (asG s22 false) false (fun k_11 => rop P (loadAt 29 s28b) h14 fun s29 =>
 k_11 s29 h14) h14 fun s29b h15 =>
 guardM (asG s22 false) false (fun k_12 => pop P (lenS 29 3 s29b) fun s30 =>
 k_12 s30 h15) h15 fun s30b h16 =>
 guardM (asG s22 false) false (fun k_13 => pop P (binA .sub 3 s30b (.int .i64 1)) fun s31 =>
 k_13 s31 h16) h16 fun s31b h17 =>
 guardM (asG s22 false) false (fun k_14 => callM P 104 #[s24, (.int .i64 0), s31b] h17 fun s32 h18 =>
 k_14 s32 h18) h17 fun s32b h19 =>
 guardM (asG s22 false) false (fun k_15 => pop P (Op.unary .not s32b) fun s33 =>
 k_15 s33 h19) h19 fun s33b h20 =>
 pop P (pickS s22 (Value.bool true) s33b) fun s34 =>
 condM s34
 (pop P (Instr.build 48 #[]) fun s35 =>
 uop P (Instr.storeAt 48 s8 s35) h20 fun q1 h21 =>
 rop P (loadAt 48 s8) h21 fun r_1 =>
 K (.tuple #[r_1, (Value.bool false)]) h21)
 (callM P 79 #[r2] h20 fun s37 h22 =>
 pop P (Instr.build 48 #[(0, s37), (1, e1)]) fun s39 =>
 eop P (Instr.alloc 48 true (.tuple #[])) h22 fun o10 h23 =>
 uop P (Instr.storeAt 48 o10 s39) h23 fun q2 h24 =>
 pop P (Instr.fieldAt 48 o10 0) fun s40 =>
 rop P (loadAt 29 s40) h24 fun s41 =>
 pop P (Instr.indexAt 29 s41 e1) fun s44 =>
 uop P (Instr.storeAt 3 s44 k3) h24 fun q3 h25 =>
 rop P (loadAt 48 o10) h25 fun s45 =>
 uop P (Instr.storeAt 48 s8 s45) h25 fun q4 h26 =>
 rop P (loadAt 48 s8) h26 fun r_2 =>
 K (.tuple #[r_2, (Value.bool true)]) h26)
theorem e48 (g0 : Value) (e1 : Value) (r2 : Value) (k3 : Value) (h : Heap) (K : KQ) : wpA Tryz.prog 46 (anOf []) (bodyOf Tryz.f48) 1 (fun A h => resA Tryz.prog A h K [.cell 8 48, .tmp 9]) (fun _ _ _ => False) (fun A h => resA Tryz.prog A h K [.cell 8 48, .tmp 9]) (aargs [g0, e1, r2, k3] 0) h = t48 Tryz.prog g0 e1 r2 k3 h K := by kernel_rfl
theorem c48 (g0 : Value) (e1 : Value) (r2 : Value) (k3 : Value) (h : Heap) (K : KQ) (H : t48 Tryz.prog g0 e1 r2 k3 h K) : callM Tryz.prog 48 #[g0, e1, r2, k3] h K :=
  callM_of_wpA mixed (fn := Tryz.f48) Tryz.func48 (c := bodyOf Tryz.f48) rfl (of_decide_eq_true (by kernel_rfl)) (anOf []) 42 46 (by kernel_rfl) rfl [.cell 8 48, .tmp 9] (by kernel_rfl) (args := [g0, e1, r2, k3]) (by rw [e48]; exact H)
def t49 (P : Program) (a0 : Value) (z1 : Value) (h : Heap) (K : KQ) : Prop :=
 pop P (lenS 62 3 a0) fun s7 =>
 pop P (lenS 62 3 z1) fun s9 =>
 pop P (binE .neq 3 (.tmp 7) (.tmp 9) s7 s9) fun s10 =>
 condM s10
 (K (Value.bool false) h)
 (pop P (lenS 62 3 a0) fun s12 =>
 ∃ (I1 : List Value -> Heap -> Prop) (μ_1 : List Value -> Heap -> Nat), I1 [(.int .i64 0)] h /\
 ∀ (junk1 : Nat -> Value) (s13 : Value) (h1 : Heap), I1 [s13] h1 ->
 pop P (binA .lss 3 s13 s12) fun s14 =>
 condM s14
 (pop P (Instr.indexAt 62 a0 s13) fun s18 =>
 rop P (loadAt 48 s18) h1 fun s19 =>
 pop P (Instr.indexAt 62 z1 s13) fun s22 =>
 rop P (loadAt 48 s22) h1 fun s23 =>
 callM P 37 #[s19, s23] h1 fun s24 h2 =>
 pop P (Op.unary .not s24) fun s25 =>
 condM s25
 (K (Value.bool false) h2)
 (pop P (binA .add 3 s13 (.int .i64 1)) fun s26 =>
 I1 [s26] h2 /\ μ_1 [s26] h2 < μ_1 [s13] h1))
 (K (Value.bool true) h1))
theorem e49 (a0 : Value) (z1 : Value) (h : Heap) (K : KQ) : wpA Tryz.prog 27 (anOf [(58, [13])]) (bodyOf Tryz.f49) 1 (fun A h => resA Tryz.prog A h K [.tmp 4]) (fun _ _ _ => False) (fun A h => resA Tryz.prog A h K [.tmp 4]) (aargs [a0, z1] 0) h = t49 Tryz.prog a0 z1 h K := by kernel_rfl
theorem c49 (a0 : Value) (z1 : Value) (h : Heap) (K : KQ) (H : t49 Tryz.prog a0 z1 h K) : callM Tryz.prog 49 #[a0, z1] h K :=
  callM_of_wpA mixed (fn := Tryz.f49) Tryz.func49 (c := bodyOf Tryz.f49) rfl (of_decide_eq_true (by kernel_rfl)) (anOf [(58, [13])]) 25 27 (by kernel_rfl) rfl [.tmp 4] (by kernel_rfl) (args := [a0, z1]) (by rw [e49]; exact H)
def t50 (P : Program) (g0 : Value) (w1 : Value) (h : Heap) (K : KQ) : Prop :=
 eop P (Instr.box 26 g0) h fun g2 h1 =>
 eop P (Instr.box 48 w1) h1 fun w3 h2 =>
 rop P (loadAt 26 g2) h2 fun s5 =>
 rop P (loadAt 48 w3) h2 fun s6 =>
 callM P 74 #[s5, s6] h2 fun s7 h3 =>
 K s7 h3
theorem e50 (g0 : Value) (w1 : Value) (h : Heap) (K : KQ) : wpA Tryz.prog 8 (anOf []) (bodyOf Tryz.f50) 1 (fun A h => resA Tryz.prog A h K [.tmp 4]) (fun _ _ _ => False) (fun A h => resA Tryz.prog A h K [.tmp 4]) (aargs [g0, w1] 0) h = t50 Tryz.prog g0 w1 h K := by kernel_rfl
theorem c50 (g0 : Value) (w1 : Value) (h : Heap) (K : KQ) (H : t50 Tryz.prog g0 w1 h K) : callM Tryz.prog 50 #[g0, w1] h K :=
  callM_of_wpA mixed (fn := Tryz.f50) Tryz.func50 (c := bodyOf Tryz.f50) rfl (of_decide_eq_true (by kernel_rfl)) (anOf []) 6 8 (by kernel_rfl) rfl [.tmp 4] (by kernel_rfl) (args := [g0, w1]) (by rw [e50]; exact H)
def t52 (P : Program) (c0 : Value) (n1 : Value) (h : Heap) (K : KQ) : Prop :=
 pop P (binA .leq 3 n1 (.int .i64 1)) fun s7 =>
 condM s7
 (K (.int .i64 0) h)
 (callM P 106 #[c0] h fun s9 h1 =>
 ∃ J1 : List Value -> Heap -> Prop, (pop P (binA .gtr 3 n1 (.int .i64 200)) fun s11 =>
 condM s11
 (pop P (binA .mul 3 s9 (.int .i64 256)) fun s13 =>
 callM P 106 #[c0] h1 fun s15 h2 =>
 pop P (binA .add 3 s13 s15) fun s16 =>
 J1 [s16] h2)
 (J1 [s9] h1)) /\
 ∀ (junk1 : Nat -> Value) (x5 : Value) (h3 : Heap), J1 [x5] h3 ->
 pop P (binA .rem 3 x5 n1) fun s19 =>
 K s19 h3)
theorem e52 (c0 : Value) (n1 : Value) (h : Heap) (K : KQ) : wpA Tryz.prog 20 (anOf [(15, [5])]) (bodyOf Tryz.f52) 1 (fun A h => resA Tryz.prog A h K [.tmp 4]) (fun _ _ _ => False) (fun A h => resA Tryz.prog A h K [.tmp 4]) (aargs [c0, n1] 0) h = t52 Tryz.prog c0 n1 h K := by kernel_rfl
theorem c52 (c0 : Value) (n1 : Value) (h : Heap) (K : KQ) (H : t52 Tryz.prog c0 n1 h K) : callM Tryz.prog 52 #[c0, n1] h K :=
  callM_of_wpA mixed (fn := Tryz.f52) Tryz.func52 (c := bodyOf Tryz.f52) rfl (of_decide_eq_true (by kernel_rfl)) (anOf [(15, [5])]) 18 20 (by kernel_rfl) rfl [.tmp 4] (by kernel_rfl) (args := [c0, n1]) (by rw [e52]; exact H)
def t53 (P : Program) (c0 : Value) (l1 : Value) (h : Heap) (K : KQ) : Prop :=
 pop P (lenS 29 3 l1) fun s8 =>
 callM P 52 #[c0, s8] h fun s9 h1 =>
 pop P (Instr.indexAt 29 l1 s9) fun s10 =>
 rop P (loadAt 3 s10) h1 fun s11 =>
 K s11 h1
theorem e53 (c0 : Value) (l1 : Value) (h : Heap) (K : KQ) : wpA Tryz.prog 12 (anOf []) (bodyOf Tryz.f53) 1 (fun A h => resA Tryz.prog A h K [.tmp 4]) (fun _ _ _ => False) (fun A h => resA Tryz.prog A h K [.tmp 4]) (aargs [c0, l1] 0) h = t53 Tryz.prog c0 l1 h K := by kernel_rfl
theorem c53 (c0 : Value) (l1 : Value) (h : Heap) (K : KQ) (H : t53 Tryz.prog c0 l1 h K) : callM Tryz.prog 53 #[c0, l1] h K :=
  callM_of_wpA mixed (fn := Tryz.f53) Tryz.func53 (c := bodyOf Tryz.f53) rfl (of_decide_eq_true (by kernel_rfl)) (anOf []) 10 12 (by kernel_rfl) rfl [.tmp 4] (by kernel_rfl) (args := [c0, l1]) (by rw [e53]; exact H)
def t56 (P : Program) (l0 : Value) (v1 : Value) (z2 : Value) (h : Heap) (K : KQ) : Prop :=
 pop P (lenS 29 3 l0) fun s10 =>
 ∃ (I1 : List Value -> Heap -> Prop) (μ_1 : List Value -> Heap -> Nat), I1 [(.int .i64 0)] h /\
 ∀ (junk1 : Nat -> Value) (s11 : Value) (h1 : Heap), I1 [s11] h1 ->
 pop P (binA .lss 3 s11 s10) fun s12 =>
 condM s12
 (pop P (Instr.indexAt 29 l0 s11) fun s13 =>
 rop P (loadAt 3 s13) h1 fun s14 =>
 callM P 104 #[s14, v1, z2] h1 fun s18 h2 =>
 pop P (Op.unary .not s18) fun s19 =>
 condM s19
 (K (Value.bool false) h2)
 (pop P (binA .add 3 s11 (.int .i64 1)) fun s20 =>
 I1 [s20] h2 /\ μ_1 [s20] h2 < μ_1 [s11] h1))
 (K (Value.bool true) h1)
theorem e56 (l0 : Value) (v1 : Value) (z2 : Value) (h : Heap) (K : KQ) : wpA Tryz.prog 21 (anOf [(26, [11])]) (bodyOf Tryz.f56) 1 (fun A h => resA Tryz.prog A h K [.tmp 6]) (fun _ _ _ => False) (fun A h => resA Tryz.prog A h K [.tmp 6]) (aargs [l0, v1, z2] 0) h = t56 Tryz.prog l0 v1 z2 h K := by kernel_rfl
theorem c56 (l0 : Value) (v1 : Value) (z2 : Value) (h : Heap) (K : KQ) (H : t56 Tryz.prog l0 v1 z2 h K) : callM Tryz.prog 56 #[l0, v1, z2] h K :=
  callM_of_wpA mixed (fn := Tryz.f56) Tryz.func56 (c := bodyOf Tryz.f56) rfl (of_decide_eq_true (by kernel_rfl)) (anOf [(26, [11])]) 18 21 (by kernel_rfl) rfl [.tmp 6] (by kernel_rfl) (args := [l0, v1, z2]) (by rw [e56]; exact H)
def t62 (P : Program) (g0 : Value) (e1 : Value) (r2 : Value) (h : Heap) (K : KQ) : Prop :=
 eop P (Instr.box 26 g0) h fun g3 h1 =>
 rop P (loadAt 26 g3) h1 fun s7 =>
 eop P (buildSlice 29 1 #[(0, e1)]) h1 fun s9 h2 =>
 callM P 94 #[s7, s9] h2 fun s10 h3 =>
 guardM (asG s10 true) true (fun k_1 => rop P (loadAt 26 g3) h3 fun s12 =>
 k_1 s12 h3) h3 fun s12b h4 =>
 guardM (asG s10 true) true (fun k_2 => k_2 r2 h4) h4 fun s13 h5 =>
 guardM (asG s10 true) true (fun k_3 => callM P 113 #[s12b, s13] h5 fun s14 h6 =>
 k_3 s14 h6) h5 fun s14b h7 =>
 pop P (pickS s10 s14b (Value.bool false)) fun s15 =>
 guardM (asG s15 true) true (fun k_4 => k_4 r2 h7) h7 fun s17 h8 =>
 guardM (asG s15 true) true (fun k_5 => k_5 e1 h8) h8 fun s18 h9 =>
 guardM (asG s15 true) true (fun k_6 => pop P (Instr.indexAt 29 s17 s18) fun s19 =>
 k_6 s19 h9) h9 fun s19b h10 =>
 guardM (asG s15 true) true (fun k_7 => rop P (loadAt 3 s19b) h10 fun s20 =>
 k_7 s20 h10) h10 fun s20b h11 =>
 guardM (asG s15 true) true (fun k_8 => pop P (binE .eql 3 (.tmp 20) (.const (.int .i64 0)) s20b (.int .i64 0)) fun s21 =>
 k_8 s21 h11) h11 fun s21b h12 =>
 pop P (pickS s15 s21b (Value.bool false)) fun s22 =>
 K s22 h12
theorem e62 (g0 : Value) (e1 : Value) (r2 : Value) (h : Heap) (K : KQ) : wpA Tryz.prog 23 (anOf []) (bodyOf Tryz.f62) 1 (fun A h => resA Tryz.prog A h K [.tmp 6]) (fun _ _ _ => False) (fun A h => resA Tryz.prog A h K [.tmp 6]) (aargs [g0, e1, r2] 0) h = t62 Tryz.prog g0 e1 r2 h K := by kernel_rfl
theorem c62 (g0 : Value) (e1 : Value) (r2 : Value) (h : Heap) (K : KQ) (H : t62 Tryz.prog g0 e1 r2 h K) : callM Tryz.prog 62 #[g0, e1, r2] h K :=
  callM_of_wpA mixed (fn := Tryz.f62) Tryz.func62 (c := bodyOf Tryz.f62) rfl (of_decide_eq_true (by kernel_rfl)) (anOf []) 20 23 (by kernel_rfl) rfl [.tmp 6] (by kernel_rfl) (args := [g0, e1, r2]) (by rw [e62]; exact H)
def t63 (P : Program) (g0 : Value) (e1 : Value) (r2 : Value) (h : Heap) (K : KQ) : Prop :=
 eop P (Instr.box 26 g0) h fun g3 h1 =>
 rop P (loadAt 26 g3) h1 fun s10 =>
 callM P 114 #[s10, e1, r2] h1 fun s13 h2 =>
 pop P (extract s13 0) fun s14 =>
 pop P (extract s13 1) fun s15 =>
 K s15 h2
theorem e63 (g0 : Value) (e1 : Value) (r2 : Value) (h : Heap) (K : KQ) : wpA Tryz.prog 17 (anOf []) (bodyOf Tryz.f63) 1 (fun A h => resA Tryz.prog A h K [.tmp 6]) (fun _ _ _ => False) (fun A h => resA Tryz.prog A h K [.tmp 6]) (aargs [g0, e1, r2] 0) h = t63 Tryz.prog g0 e1 r2 h K := by kernel_rfl
theorem c63 (g0 : Value) (e1 : Value) (r2 : Value) (h : Heap) (K : KQ) (H : t63 Tryz.prog g0 e1 r2 h K) : callM Tryz.prog 63 #[g0, e1, r2] h K :=
  callM_of_wpA mixed (fn := Tryz.f63) Tryz.func63 (c := bodyOf Tryz.f63) rfl (of_decide_eq_true (by kernel_rfl)) (anOf []) 14 17 (by kernel_rfl) rfl [.tmp 6] (by kernel_rfl) (args := [g0, e1, r2]) (by rw [e63]; exact H)
def t66 (P : Program) (c0 : Value) (n1 : Value) (h : Heap) (K : KQ) : Prop :=
 ∃ (I1 : List Value -> Heap -> Prop) (μ_1 : List Value -> Heap -> Nat), I1 [(Value.slice none 0 0), (.int .i64 0)] h /\
 ∀ (junk1 : Nat -> Value) (o5 : Value) (p6 : Value) (h1 : Heap), I1 [o5, p6] h1 ->
 pop P (binA .lss 3 p6 n1) fun s12 =>
 condM s12
 (eop P (buildSlice 29 1 #[(0, p6)]) h1 fun s17 h2 =>
 eop P (appS 29 29 29 o5 s17) h2 fun s18 h3 =>
 pop P (binA .add 3 p6 (.int .i64 1)) fun s14 =>
 I1 [s18, s14] h3 /\ μ_1 [s18, s14] h3 < μ_1 [o5, p6] h1)
 (pop P (lenS 29 3 o5) fun s20 =>
 ∃ (I2 : List Value -> Heap -> Prop) (μ_2 : List Value -> Heap -> Nat), I2 [(.int .i64 0)] h1 /\
 ∀ (junk2 : Nat -> Value) (s21 : Value) (h4 : Heap), I2 [s21] h4 ->
 pop P (binA .lss 3 s21 s20) fun s22 =>
 condM s22
 (callM P 52 #[c0, n1] h4 fun s26 h5 =>
 pop P (Instr.indexAt 29 o5 s21) fun s29 =>
 rop P (loadAt 3 s29) h5 fun s30 =>
 pop P (Instr.indexAt 29 o5 s26) fun s35 =>
 rop P (loadAt 3 s35) h5 fun s36 =>
 pop P (Instr.indexAt 29 o5 s21) fun s37 =>
 uop P (Instr.storeAt 3 s37 s36) h5 fun q1 h6 =>
 pop P (Instr.indexAt 29 o5 s26) fun s41 =>
 uop P (Instr.storeAt 3 s41 s30) h6 fun q2 h7 =>
 pop P (binA .add 3 s21 (.int .i64 1)) fun s42 =>
 I2 [s42] h7 /\ μ_2 [s42] h7 < μ_2 [s21] h4)
 (K o5 h4))
theorem e66 (c0 : Value) (n1 : Value) (h : Heap) (K : KQ) : wpA Tryz.prog 44 (anOf [(58, [5, 6]), (122, [21])]) (bodyOf Tryz.f66) 1 (fun A h => resA Tryz.prog A h K [.tmp 4]) (fun _ _ _ => False) (fun A h => resA Tryz.prog A h K [.tmp 4]) (aargs [c0, n1] 0) h = t66 Tryz.prog c0 n1 h K := by kernel_rfl
theorem c66 (c0 : Value) (n1 : Value) (h : Heap) (K : KQ) (H : t66 Tryz.prog c0 n1 h K) : callM Tryz.prog 66 #[c0, n1] h K :=
  callM_of_wpA mixed (fn := Tryz.f66) Tryz.func66 (c := bodyOf Tryz.f66) rfl (of_decide_eq_true (by kernel_rfl)) (anOf [(58, [5, 6]), (122, [21])]) 42 44 (by kernel_rfl) rfl [.tmp 4] (by kernel_rfl) (args := [c0, n1]) (by rw [e66]; exact H)
def t67 (P : Program) (c0 : Value) (n1 : Value) (h : Heap) (K : KQ) : Prop :=
 callM P 52 #[c0, n1] h fun s7 h1 =>
 pop P (binE .eql 3 (.tmp 7) (.const (.int .i64 0)) s7 (.int .i64 0)) fun s8 =>
 K s8 h1
theorem e67 (c0 : Value) (n1 : Value) (h : Heap) (K : KQ) : wpA Tryz.prog 9 (anOf []) (bodyOf Tryz.f67) 1 (fun A h => resA Tryz.prog A h K [.tmp 4]) (fun _ _ _ => False) (fun A h => resA Tryz.prog A h K [.tmp 4]) (aargs [c0, n1] 0) h = t67 Tryz.prog c0 n1 h K := by kernel_rfl
theorem c67 (c0 : Value) (n1 : Value) (h : Heap) (K : KQ) (H : t67 Tryz.prog c0 n1 h K) : callM Tryz.prog 67 #[c0, n1] h K :=
  callM_of_wpA mixed (fn := Tryz.f67) Tryz.func67 (c := bodyOf Tryz.f67) rfl (of_decide_eq_true (by kernel_rfl)) (anOf []) 7 9 (by kernel_rfl) rfl [.tmp 4] (by kernel_rfl) (args := [c0, n1]) (by rw [e67]; exact H)
def t68 (P : Program) (g0 : Value) (h : Heap) (K : KQ) : Prop :=
 eop P (Instr.box 26 g0) h fun g1 h1 =>
 pop P (Instr.fieldAt 26 g1 0) fun s6 =>
 rop P (loadAt 24 s6) h1 fun s7 =>
 pop P (lenS 24 3 s7) fun s8 =>
 eop P (Instr.alloc 3 true (.tuple #[])) h1 fun n3 h2 =>
 uop P (Instr.storeAt 3 n3 s8) h2 fun q1 h3 =>
 rop P (loadAt 3 n3) h3 fun s9 =>
 callM P 84 #[s9, (.int .i64 1), (.int .i64 8)] h3 fun s10 h4 =>
 pop P (Op.unary .not s10) fun s11 =>
 condM s11
 (K (Value.bool false) h4)
 (pop P (Instr.fieldAt 26 g1 0) fun s12 =>
 rop P (loadAt 24 s12) h4 fun s13 =>
 pop P (lenS 24 3 s13) fun s14 =>
 ∃ (I1 : List Value -> Heap -> Prop) (μ_1 : List Value -> Heap -> Nat), I1 [(.int .i64 0)] h4 /\
 ∀ (junk1 : Nat -> Value) (s15 : Value) (h5 : Heap), I1 [s15] h5 ->
 pop P (binA .lss 3 s15 s14) fun s16 =>
 condM s16
 (pop P (Instr.indexAt 24 s13 s15) fun s17 =>
 rop P (loadAt 29 s17) h5 fun s18 =>
 pop P (lenS 29 3 s18) fun s20 =>
 pop P (binA .gtr 3 s20 (.int .i64 5)) fun s21 =>
 guardM (asG s21 false) false (fun k_1 => k_1 s18 h5) h5 fun s23 h6 =>
 guardM (asG s21 false) false (fun k_2 => pop P (Instr.makeFunc (Fn.func 117) #[] #[n3]) fun s24 =>
 k_2 s24 h6) h6 fun s24b h7 =>
 guardM (asG s21 false) false (fun k_3 => callM P 107 #[s23, s24b] h7 fun s25 h8 =>
 k_3 s25 h8) h7 fun s25b h9 =>
 pop P (pickS s21 (Value.bool true) s25b) fun s26 =>
 condM s26
 (K (Value.bool false) h9)
 (pop P (binA .add 3 s15 (.int .i64 1)) fun s27 =>
 I1 [s27] h9 /\ μ_1 [s27] h9 < μ_1 [s15] h5))
 (K (Value.bool true) h5))
theorem e68 (g0 : Value) (h : Heap) (K : KQ) : wpA Tryz.prog 28 (anOf [(122, [15])]) (bodyOf Tryz.f68) 1 (fun A h => resA Tryz.prog A h K [.tmp 2]) (fun _ _ _ => False) (fun A h => resA Tryz.prog A h K [.tmp 2]) (aargs [g0] 0) h = t68 Tryz.prog g0 h K := by kernel_rfl
theorem c68 (g0 : Value) (h : Heap) (K : KQ) (H : t68 Tryz.prog g0 h K) : callM Tryz.prog 68 #[g0] h K :=
  callM_of_wpA mixed (fn := Tryz.f68) Tryz.func68 (c := bodyOf Tryz.f68) rfl (of_decide_eq_true (by kernel_rfl)) (anOf [(122, [15])]) 27 28 (by kernel_rfl) rfl [.tmp 2] (by kernel_rfl) (args := [g0]) (by rw [e68]; exact H)
def t73 (P : Program) (z0 : Value) (h : Heap) (K : KQ) : Prop :=
 eop P (Instr.alloc 26 true (.tuple #[])) h fun s2 h1 =>
 eop P (Instr.alloc 48 true (.tuple #[])) h1 fun s3 h2 =>
 pop P (Instr.build 74 #[(0, z0)]) fun s6 =>
 eop P (Instr.box 74 s6) h2 fun s7 h3 =>
 callM P 122 #[s7] h3 fun s9 h4 =>
 pop P (extract s9 0) fun s10 =>
 pop P (extract s9 1) fun s11 =>
 uop P (Instr.storeAt 26 s2 s10) h4 fun q1 h5 =>
 uop P (Instr.storeAt 48 s3 s11) h5 fun q2 h6 =>
 rop P (loadAt 26 s2) h6 fun r_1 =>
 rop P (loadAt 48 s3) h6 fun r_2 =>
 K (.tuple #[r_1, r_2]) h6
theorem e73 (z0 : Value) (h : Heap) (K : KQ) : wpA Tryz.prog 12 (anOf []) (bodyOf Tryz.f73) 1 (fun A h => resA Tryz.prog A h K [.cell 2 26, .cell 3 48]) (fun _ _ _ => False) (fun A h => resA Tryz.prog A h K [.cell 2 26, .cell 3 48]) (aargs [z0] 0) h = t73 Tryz.prog z0 h K := by kernel_rfl
theorem c73 (z0 : Value) (h : Heap) (K : KQ) (H : t73 Tryz.prog z0 h K) : callM Tryz.prog 73 #[z0] h K :=
  callM_of_wpA mixed (fn := Tryz.f73) Tryz.func73 (c := bodyOf Tryz.f73) rfl (of_decide_eq_true (by kernel_rfl)) (anOf []) 11 12 (by kernel_rfl) rfl [.cell 2 26, .cell 3 48] (by kernel_rfl) (args := [z0]) (by rw [e73]; exact H)
def t74 (P : Program) (g0 : Value) (w1 : Value) (h : Heap) (K : KQ) : Prop :=
 eop P (Instr.box 26 g0) h fun g2 h1 =>
 eop P (Instr.box 48 w1) h1 fun w3 h2 =>
 rop P (loadAt 26 g2) h2 fun s7 =>
 pop P (Instr.fieldAt 48 w3 1) fun s8 =>
 rop P (loadAt 3 s8) h2 fun s9 =>
 eop P (buildSlice 29 1 #[(0, s9)]) h2 fun s10 h3 =>
 callM P 94 #[s7, s10] h3 fun s11 h4 =>
 pop P (Op.unary .not s11) fun s12 =>
 guardM (asG s12 false) false (fun k_1 => pop P (Instr.fieldAt 48 w3 0) fun s14 =>
 k_1 s14 h4) h4 fun s14b h5 =>
 guardM (asG s12 false) false (fun k_2 => rop P (loadAt 29 s14b) h5 fun s15 =>
 k_2 s15 h5) h5 fun s15b h6 =>
 guardM (asG s12 false) false (fun k_3 => pop P (lenS 29 3 s15b) fun s16 =>
 k_3 s16 h6) h6 fun s16b h7 =>
 guardM (asG s12 false) false (fun k_4 => pop P (Instr.fieldAt 26 g2 0) fun s17 =>
 k_4 s17 h7) h7 fun s17b h8 =>
 guardM (asG s12 false) false (fun k_5 => rop P (loadAt 24 s17b) h8 fun s18 =>
 k_5 s18 h8) h8 fun s18b h9 =>
 guardM (asG s12 false) false (fun k_6 => pop P (lenS 24 3 s18b) fun s19 =>
 k_6 s19 h9) h9 fun s19b h10 =>
 guardM (asG s12 false) false (fun k_7 => pop P (binE .neq 3 (.tmp 16) (.tmp 19) s16b s19b) fun s20 =>
 k_7 s20 h10) h10 fun s20b h11 =>
 pop P (pickS s12 (Value.bool true) s20b) fun s21 =>
 condM s21
 (K (Value.bool false) h11)
 (pop P (Instr.fieldAt 48 w3 0) fun s22 =>
 rop P (loadAt 29 s22) h11 fun s23 =>
 pop P (lenS 29 3 s23) fun s24 =>
 ∃ (I1 : List Value -> Heap -> Prop) (μ_1 : List Value -> Heap -> Nat), I1 [(.int .i64 0)] h11 /\
 ∀ (junk1 : Nat -> Value) (s25 : Value) (h12 : Heap), I1 [s25] h12 ->
 pop P (binA .lss 3 s25 s24) fun s26 =>
 condM s26
 (pop P (Instr.indexAt 29 s23 s25) fun s28 =>
 rop P (loadAt 3 s28) h12 fun s29 =>
 pop P (Instr.fieldAt 26 g2 0) fun s31 =>
 rop P (loadAt 24 s31) h12 fun s32 =>
 pop P (Instr.indexAt 24 s32 s25) fun s34 =>
 rop P (loadAt 29 s34) h12 fun s35 =>
 pop P (lenS 29 3 s35) fun s36 =>
 pop P (binA .sub 3 s36 (.int .i64 1)) fun s37 =>
 pop P (Builtin.max_ #[3, 3] 3 #[s37, (.int .i64 0)]) fun s38 =>
 callM P 84 #[s29, (.int .i64 0), s38] h12 fun s39 h13 =>
 pop P (Op.unary .not s39) fun s40 =>
 condM s40
 (K (Value.bool false) h13)
 (pop P (binA .add 3 s25 (.int .i64 1)) fun s41 =>
 I1 [s41] h13 /\ μ_1 [s41] h13 < μ_1 [s25] h12))
 (K (Value.bool true) h12))
theorem e74 (g0 : Value) (w1 : Value) (h : Heap) (K : KQ) : wpA Tryz.prog 42 (anOf [(58, [25])]) (bodyOf Tryz.f74) 1 (fun A h => resA Tryz.prog A h K [.tmp 4]) (fun _ _ _ => False) (fun A h => resA Tryz.prog A h K [.tmp 4]) (aargs [g0, w1] 0) h = t74 Tryz.prog g0 w1 h K := by kernel_rfl
theorem c74 (g0 : Value) (w1 : Value) (h : Heap) (K : KQ) (H : t74 Tryz.prog g0 w1 h K) : callM Tryz.prog 74 #[g0, w1] h K :=
  callM_of_wpA mixed (fn := Tryz.f74) Tryz.func74 (c := bodyOf Tryz.f74) rfl (of_decide_eq_true (by kernel_rfl)) (anOf [(58, [25])]) 40 42 (by kernel_rfl) rfl [.tmp 4] (by kernel_rfl) (args := [g0, w1]) (by rw [e74]; exact H)
def t75 (P : Program) (g0 : Value) (w1 : Value) (h : Heap) (K : KQ) : Prop :=
 eop P (Instr.box 26 g0) h fun g2 h1 =>
 eop P (Instr.box 48 w1) h1 fun w3 h2 =>
 pop P (Instr.fieldAt 26 g2 0) fun s8 =>
 rop P (loadAt 24 s8) h2 fun s9 =>
 pop P (lenS 24 3 s9) fun s10 =>
 ∃ (I1 : List Value -> Heap -> Prop) (μ_1 : List Value -> Heap -> Nat), I1 [(.int .i64 0)] h2 /\
 ∀ (junk1 : Nat -> Value) (s11 : Value) (h3 : Heap), I1 [s11] h3 ->
 pop P (binA .lss 3 s11 s10) fun s12 =>
 condM s12
 (rop P (loadAt 26 g2) h3 fun s15 =>
 pop P (Instr.fieldAt 48 w3 0) fun s16 =>
 rop P (loadAt 29 s16) h3 fun s17 =>
 callM P 80 #[s15, s17, s11] h3 fun s19 h4 =>
 pop P (extract s19 0) fun s20 =>
 pop P (extract s19 1) fun s21 =>
 pop P (Op.unary .not s21) fun s23 =>
 guardM (asG s23 false) false (fun k_1 => k_1 s20 h4) h4 fun s25 h5 =>
 guardM (asG s23 false) false (fun k_2 => pop P (Instr.fieldAt 48 w3 1) fun s26 =>
 k_2 s26 h5) h5 fun s26b h6 =>
 guardM (asG s23 false) false (fun k_3 => rop P (loadAt 3 s26b) h6 fun s27 =>
 k_3 s27 h6) h6 fun s27b h7 =>
 guardM (asG s23 false) false (fun k_4 => callM P 123 #[s25, s27b] h7 fun s28 h8 =>
 k_4 s28 h8) h7 fun s28b h9 =>
 guardM (asG s23 false) false (fun k_5 => pop P (Op.unary .not s28b) fun s29 =>
 k_5 s29 h9) h9 fun s29b h10 =>
 pop P (pickS s23 (Value.bool true) s29b) fun s30 =>
 condM s30
 (K (Value.bool false) h10)
 (pop P (binA .add 3 s11 (.int .i64 1)) fun s31 =>
 I1 [s31] h10 /\ μ_1 [s31] h10 < μ_1 [s11] h3))
 (K (Value.bool true) h3)
theorem e75 (g0 : Value) (w1 : Value) (h : Heap) (K : KQ) : wpA Tryz.prog 32 (anOf [(26, [11])]) (bodyOf Tryz.f75) 1 (fun A h => resA Tryz.prog A h K [.tmp 4]) (fun _ _ _ => False) (fun A h => resA Tryz.prog A h K [.tmp 4]) (aargs [g0, w1] 0) h = t75 Tryz.prog g0 w1 h K := by kernel_rfl
theorem c75 (g0 : Value) (w1 : Value) (h : Heap) (K : KQ) (H : t75 Tryz.prog g0 w1 h K) : callM Tryz.prog 75 #[g0, w1] h K :=
  callM_of_wpA mixed (fn := Tryz.f75) Tryz.func75 (c := bodyOf Tryz.f75) rfl (of_decide_eq_true (by kernel_rfl)) (anOf [(26, [11])]) 30 32 (by kernel_rfl) rfl [.tmp 4] (by kernel_rfl) (args := [g0, w1]) (by rw [e75]; exact H)
def t76 (P : Program) (g0 : Value) (w1 : Value) (h : Heap) (K : KQ) : Prop :=
 eop P (Instr.box 26 g0) h fun g2 h1 =>
 eop P (Instr.box 48 w1) h1 fun w3 h2 =>
 rop P (loadAt 26 g2) h2 fun s7 =>
 pop P (Instr.fieldAt 48 w3 1) fun s8 =>
 rop P (loadAt 3 s8) h2 fun s9 =>
 callM P 98 #[s7, s9] h2 fun s10 h3 =>
 pop P (Op.unary .not s10) fun s11 =>
 guardM (asG s11 false) false (fun k_1 => pop P (Instr.fieldAt 48 w3 0) fun s13 =>
 k_1 s13 h3) h3 fun s13b h4 =>
 guardM (asG s11 false) false (fun k_2 => rop P (loadAt 29 s13b) h4 fun s14 =>
 k_2 s14 h4) h4 fun s14b h5 =>
 guardM (asG s11 false) false (fun k_3 => pop P (lenS 29 3 s14b) fun s15 =>
 k_3 s15 h5) h5 fun s15b h6 =>
 guardM (asG s11 false) false (fun k_4 => pop P (Instr.fieldAt 26 g2 0) fun s16 =>
 k_4 s16 h6) h6 fun s16b h7 =>
 guardM (asG s11 false) false (fun k_5 => rop P (loadAt 24 s16b) h7 fun s17 =>
 k_5 s17 h7) h7 fun s17b h8 =>
 guardM (asG s11 false) false (fun k_6 => pop P (lenS 24 3 s17b) fun s18 =>
 k_6 s18 h8) h8 fun s18b h9 =>
 guardM (asG s11 false) false (fun k_7 => pop P (binE .neq 3 (.tmp 15) (.tmp 18) s15b s18b) fun s19 =>
 k_7 s19 h9) h9 fun s19b h10 =>
 pop P (pickS s11 (Value.bool true) s19b) fun s20 =>
 condM s20
 (K (Value.bool false) h10)
 (pop P (Instr.fieldAt 26 g2 0) fun s21 =>
 rop P (loadAt 24 s21) h10 fun s22 =>
 pop P (lenS 24 3 s22) fun s23 =>
 ∃ (I1 : List Value -> Heap -> Prop) (μ_1 : List Value -> Heap -> Nat), I1 [(.int .i64 0)] h10 /\
 ∀ (junk1 : Nat -> Value) (s24 : Value) (h11 : Heap), I1 [s24] h11 ->
 pop P (binA .lss 3 s24 s23) fun s25 =>
 condM s25
 (pop P (Instr.indexAt 24 s22 s24) fun s27 =>
 rop P (loadAt 29 s27) h11 fun s28 =>
 pop P (Instr.fieldAt 48 w3 0) fun s29 =>
 rop P (loadAt 29 s29) h11 fun s30 =>
 pop P (Instr.indexAt 29 s30 s24) fun s32 =>
 rop P (loadAt 3 s32) h11 fun s33 =>
 pop P (lenS 29 3 s28) fun s35 =>
 pop P (binA .sub 3 s35 (.int .i64 1)) fun s36 =>
 callM P 124 #[(.int .i64 0), s36] h11 fun s37 h12 =>
 (∀ w : World, w.heap = h12 -> (loadAt 3 s32).run P w = .ok s33 w) /\
 (∀ w : World, w.heap = h12 -> (loadAt 29 s29).run P w = .ok s30 w) /\
 callM P 104 #[s33, (.int .i64 0), s37] h12 fun s38 h13 =>
 (∀ w : World, w.heap = h13 -> (loadAt 29 s29).run P w = .ok s30 w) /\
 pop P (Op.unary .not s38) fun s39 =>
 condM s39
 (K (Value.bool false) h13)
 (pop P (binA .add 3 s24 (.int .i64 1)) fun s40 =>
 I1 [s40] h13 /\ μ_1 [s40] h13 < μ_1 [s24] h11))
 (K (Value.bool true) h11))
theorem e76 (g0 : Value) (w1 : Value) (h : Heap) (K : KQ) : wpA Tryz.prog 41 (anOf [(58, [24])]) (bodyOf Tryz.f76) 1 (fun A h => resA Tryz.prog A h K [.tmp 4]) (fun _ _ _ => False) (fun A h => resA Tryz.prog A h K [.tmp 4]) (aargs [g0, w1] 0) h = t76 Tryz.prog g0 w1 h K := by kernel_rfl
theorem c76 (g0 : Value) (w1 : Value) (h : Heap) (K : KQ) (H : t76 Tryz.prog g0 w1 h K) : callM Tryz.prog 76 #[g0, w1] h K :=
  callM_of_wpA mixed (fn := Tryz.f76) Tryz.func76 (c := bodyOf Tryz.f76) rfl (of_decide_eq_true (by kernel_rfl)) (anOf [(58, [24])]) 39 41 (by kernel_rfl) rfl [.tmp 4] (by kernel_rfl) (args := [g0, w1]) (by rw [e76]; exact H)
def t77 (P : Program) (g0 : Value) (w1 : Value) (h : Heap) (K : KQ) : Prop :=
 eop P (Instr.box 26 g0) h fun g2 h1 =>
 eop P (Instr.box 48 w1) h1 fun w3 h2 =>
 rop P (loadAt 26 g2) h2 fun s11 =>
 pop P (Instr.fieldAt 48 w3 0) fun s12 =>
 rop P (loadAt 29 s12) h2 fun s13 =>
 pop P (Instr.fieldAt 48 w3 1) fun s14 =>
 rop P (loadAt 3 s14) h2 fun s15 =>
 callM P 125 #[s11, s13, s15] h2 fun s16 h3 =>
 pop P (extract s16 0) fun s17 =>
 pop P (extract s16 1) fun s18 =>
 pop P (Op.unary .not s18) fun s20 =>
 guardM (asG s20 false) false (fun k_1 => k_1 s17 h3) h3 fun s22 h4 =>
 guardM (asG s20 false) false (fun k_2 => pop P (Instr.fieldAt 48 w3 1) fun s23 =>
 k_2 s23 h4) h4 fun s23b h5 =>
 guardM (asG s20 false) false (fun k_3 => rop P (loadAt 3 s23b) h5 fun s24 =>
 k_3 s24 h5) h5 fun s24b h6 =>
 guardM (asG s20 false) false (fun k_4 => callM P 112 #[s22, s24b] h6 fun s25 h7 =>
 k_4 s25 h7) h6 fun s25b h8 =>
 guardM (asG s20 false) false (fun k_5 => pop P (Op.unary .not s25b) fun s26 =>
 k_5 s26 h8) h8 fun s26b h9 =>
 pop P (pickS s20 (Value.bool true) s26b) fun s27 =>
 condM s27
 (K (Value.bool false) h9)
 (pop P (Instr.fieldAt 26 g2 0) fun s28 =>
 rop P (loadAt 24 s28) h9 fun s29 =>
 pop P (lenS 24 3 s29) fun s30 =>
 ∃ (I1 : List Value -> Heap -> Prop) (μ_1 : List Value -> Heap -> Nat), I1 [(.int .i64 0)] h9 /\
 ∀ (junk1 : Nat -> Value) (s31 : Value) (h10 : Heap), I1 [s31] h10 ->
 pop P (binA .lss 3 s31 s30) fun s32 =>
 condM s32
 (rop P (loadAt 26 g2) h10 fun s35 =>
 pop P (Instr.fieldAt 48 w3 0) fun s36 =>
 rop P (loadAt 29 s36) h10 fun s37 =>
 callM P 125 #[s35, s37, s31] h10 fun s39 h11 =>
 pop P (extract s39 0) fun s40 =>
 pop P (extract s39 1) fun s41 =>
 pop P (Op.unary .not s41) fun s43 =>
 guardM (asG s43 false) false (fun k_6 => k_6 s40 h11) h11 fun s45 h12 =>
 guardM (asG s43 false) false (fun k_7 => pop P (Instr.fieldAt 48 w3 1) fun s46 =>
 k_7 s46 h12) h12 fun s46b h13 =>
 guardM (asG s43 false) false (fun k_8 => rop P (loadAt 3 s46b) h13 fun s47 =>
 k_8 s47 h13) h13 fun s47b h14 =>
 guardM (asG s43 false) false (fun k_9 => callM P 112 #[s45, s47b] h14 fun s48 h15 =>
 k_9 s48 h15) h14 fun s48b h16 =>
 guardM (asG s43 false) false (fun k_10 => pop P (Op.unary .not s48b) fun s49 =>
 k_10 s49 h16) h16 fun s49b h17 =>
 pop P (pickS s43 (Value.bool true) s49b) fun s50 =>
 condM s50
 (K (Value.bool false) h17)
 (pop P (binA .add 3 s31 (.int .i64 1)) fun s51 =>
 I1 [s51] h17 /\ μ_1 [s51] h17 < μ_1 [s31] h10))
 (K (Value.bool true) h10))
theorem e77 (g0 : Value) (w1 : Value) (h : Heap) (K : KQ) : wpA Tryz.prog 52 (anOf [(122, [31])]) (bodyOf Tryz.f77) 1 (fun A h => resA Tryz.prog A h K [.tmp 4]) (fun _ _ _ => False) (fun A h => resA Tryz.prog A h K [.tmp 4]) (aargs [g0, w1] 0) h = t77 Tryz.prog g0 w1 h K := by kernel_rfl
theorem c77 (g0 : Value) (w1 : Value) (h : Heap) (K : KQ) (H : t77 Tryz.prog g0 w1 h K) : callM Tryz.prog 77 #[g0, w1] h K :=
  callM_of_wpA mixed (fn := Tryz.f77) Tryz.func77 (c := bodyOf Tryz.f77) rfl (of_decide_eq_true (by kernel_rfl)) (anOf [(122, [31])]) 50 52 (by kernel_rfl) rfl [.tmp 4] (by kernel_rfl) (args := [g0, w1]) (by rw [e77]; exact H)
def t78 (P : Program) (y0 : Value) (h : Heap) (K : KQ) : Prop :=
 pop P (binE .eql 29 (.tmp 3) (.const (Value.slice none 0 0)) y0 (Value.slice none 0 0)) fun s4 =>
 condM s4
 (K (Value.slice none 0 0) h)
 (eop P (buildSlice 29 0 #[]) h fun s5 h1 =>
 eop P (appS 29 29 29 s5 y0) h1 fun s7 h2 =>
 K s7 h2)
theorem e78 (y0 : Value) (h : Heap) (K : KQ) : wpA Tryz.prog 8 (anOf []) (bodyOf Tryz.f78) 1 (fun A h => resA Tryz.prog A h K [.tmp 2]) (fun _ _ _ => False) (fun A h => resA Tryz.prog A h K [.tmp 2]) (aargs [y0] 0) h = t78 Tryz.prog y0 h K := by kernel_rfl
theorem c78 (y0 : Value) (h : Heap) (K : KQ) (H : t78 Tryz.prog y0 h K) : callM Tryz.prog 78 #[y0] h K :=
  callM_of_wpA mixed (fn := Tryz.f78) Tryz.func78 (c := bodyOf Tryz.f78) rfl (of_decide_eq_true (by kernel_rfl)) (anOf []) 7 8 (by kernel_rfl) rfl [.tmp 2] (by kernel_rfl) (args := [y0]) (by rw [e78]; exact H)
def t79 (P : Program) (l0 : Value) (h : Heap) (K : KQ) : Prop :=
 eop P (buildSlice 29 0 #[]) h fun s3 h1 =>
 eop P (appS 29 29 29 s3 l0) h1 fun s5 h2 =>
 K s5 h2
theorem e79 (l0 : Value) (h : Heap) (K : KQ) : wpA Tryz.prog 6 (anOf []) (bodyOf Tryz.f79) 1 (fun A h => resA Tryz.prog A h K [.tmp 2]) (fun _ _ _ => False) (fun A h => resA Tryz.prog A h K [.tmp 2]) (aargs [l0] 0) h = t79 Tryz.prog l0 h K := by kernel_rfl
theorem c79 (l0 : Value) (h : Heap) (K : KQ) (H : t79 Tryz.prog l0 h K) : callM Tryz.prog 79 #[l0] h K :=
  callM_of_wpA mixed (fn := Tryz.f79) Tryz.func79 (c := bodyOf Tryz.f79) rfl (of_decide_eq_true (by kernel_rfl)) (anOf []) 5 6 (by kernel_rfl) rfl [.tmp 2] (by kernel_rfl) (args := [l0]) (by rw [e79]; exact H)
def t80 (P : Program) (g0 : Value) (r1 : Value) (p2 : Value) (h : Heap) (K : KQ) : Prop :=
 eop P (Instr.box 26 g0) h fun g3 h1 =>
 eop P (buildSlice 29 0 #[]) h1 fun s9 h2 =>
 ∃ (I1 : List Value -> Heap -> Prop) (μ_1 : List Value -> Heap -> Nat), I1 [p2, s9] h2 /\
 ∀ (junk1 : Nat -> Value) (p2a : Value) (m8 : Value) (h3 : Heap), I1 [p2a, m8] h3 ->
 callM P 123 #[m8, p2a] h3 fun s12 h4 =>
 pop P (Op.unary .not s12) fun s13 =>
 condM s13
 (eop P (buildSlice 29 1 #[(0, p2a)]) h4 fun s16 h5 =>
 eop P (appS 29 29 29 m8 s16) h5 fun s17 h6 =>
 rop P (loadAt 26 g3) h6 fun s18 =>
 callM P 126 #[s18, r1, p2a] h6 fun s21 h7 =>
 pop P (binA .lss 3 s21 (.int .i64 0)) fun s23 =>
 condM s23
 (K (.tuple #[(Value.slice none 0 0), (Value.bool false)]) h7)
 (I1 [s21, s17] h7 /\ μ_1 [s21, s17] h7 < μ_1 [p2a, m8] h3))
 (callM P 127 #[m8, p2a] h4 fun s27 h8 =>
 pop P (Instr.sliceAt 29 m8 (some s27) none none) fun s28 =>
 K (.tuple #[s28, (Value.bool true)]) h8)
theorem e80 (g0 : Value) (r1 : Value) (p2 : Value) (h : Heap) (K : KQ) : wpA Tryz.prog 29 (anOf [(28, [2, 8])]) (bodyOf Tryz.f80) 1 (fun A h => resA Tryz.prog A h K [.tmp 6, .tmp 7]) (fun _ _ _ => False) (fun A h => resA Tryz.prog A h K [.tmp 6, .tmp 7]) (aargs [g0, r1, p2] 0) h = t80 Tryz.prog g0 r1 p2 h K := by kernel_rfl
theorem c80 (g0 : Value) (r1 : Value) (p2 : Value) (h : Heap) (K : KQ) (H : t80 Tryz.prog g0 r1 p2 h K) : callM Tryz.prog 80 #[g0, r1, p2] h K :=
  callM_of_wpA mixed (fn := Tryz.f80) Tryz.func80 (c := bodyOf Tryz.f80) rfl (of_decide_eq_true (by kernel_rfl)) (anOf [(28, [2, 8])]) 26 29 (by kernel_rfl) rfl [.tmp 6, .tmp 7] (by kernel_rfl) (args := [g0, r1, p2]) (by rw [e80]; exact H)
def t81 (P : Program) (g0 : Value) (w1 : Value) (h : Heap) (K : KQ) : Prop :=
 eop P (Instr.box 26 g0) h fun g2 h1 =>
 eop P (Instr.box 48 w1) h1 fun w3 h2 =>
 rop P (loadAt 26 g2) h2 fun s10 =>
 pop P (Instr.fieldAt 48 w3 0) fun s11 =>
 rop P (loadAt 29 s11) h2 fun s12 =>
 pop P (Instr.fieldAt 48 w3 1) fun s13 =>
 rop P (loadAt 3 s13) h2 fun s14 =>
 callM P 125 #[s10, s12, s14] h2 fun s15 h3 =>
 pop P (extract s15 0) fun s16 =>
 pop P (extract s15 1) fun s17 =>
 pop P (Op.unary .not s17) fun s19 =>
 condM s19
 (K (.tuple #[(Value.slice none 0 0), (Value.bool false)]) h3)
 (pop P (Instr.fieldAt 48 w3 1) fun s20 =>
 rop P (loadAt 3 s20) h3 fun s21 =>
 ∃ (I1 : List Value -> Heap -> Prop) (μ_1 : List Value -> Heap -> Nat), I1 [s21] h3 /\
 ∀ (junk1 : Nat -> Value) (p8 : Value) (h4 : Heap), I1 [p8] h4 ->
 callM P 112 #[s16, p8] h4 fun s24 h5 =>
 pop P (Op.unary .not s24) fun s25 =>
 condM s25
 (rop P (loadAt 26 g2) h5 fun s26 =>
 pop P (Instr.fieldAt 48 w3 0) fun s27 =>
 rop P (loadAt 29 s27) h5 fun s28 =>
 callM P 128 #[s26, s28, p8] h5 fun s30 h6 =>
 I1 [s30] h6 /\ μ_1 [s30] h6 < μ_1 [p8] h4)
 (rop P (loadAt 26 g2) h5 fun s31 =>
 pop P (Instr.fieldAt 48 w3 0) fun s32 =>
 rop P (loadAt 29 s32) h5 fun s33 =>
 callM P 129 #[s31, s33, p8] h5 fun s35 h7 =>
 K (.tuple #[s35, (Value.bool true)]) h7))
theorem e81 (g0 : Value) (w1 : Value) (h : Heap) (K : KQ) : wpA Tryz.prog 36 (anOf [(124, [8])]) (bodyOf Tryz.f81) 1 (fun A h => resA Tryz.prog A h K [.tmp 4, .tmp 5]) (fun _ _ _ => False) (fun A h => resA Tryz.prog A h K [.tmp 4, .tmp 5]) (aargs [g0, w1] 0) h = t81 Tryz.prog g0 w1 h K := by kernel_rfl
theorem c81 (g0 : Value) (w1 : Value) (h : Heap) (K : KQ) (H : t81 Tryz.prog g0 w1 h K) : callM Tryz.prog 81 #[g0, w1] h K :=
  callM_of_wpA mixed (fn := Tryz.f81) Tryz.func81 (c := bodyOf Tryz.f81) rfl (of_decide_eq_true (by kernel_rfl)) (anOf [(124, [8])]) 34 36 (by kernel_rfl) rfl [.tmp 4, .tmp 5] (by kernel_rfl) (args := [g0, w1]) (by rw [e81]; exact H)
def t82 (P : Program) (g0 : Value) (w1 : Value) (f2 : Value) (y3 : Value) (h : Heap) (K : KQ) : Prop :=
 eop P (Instr.box 26 g0) h fun g4 h1 =>
 eop P (Instr.box 48 w1) h1 fun w5 h2 =>
 rop P (loadAt 48 w5) h2 fun s12 =>
 callM P 86 #[s12] h2 fun s13 h3 =>
 eop P (Instr.alloc 48 true (.tuple #[])) h3 fun n10 h4 =>
 uop P (Instr.storeAt 48 n10 s13) h4 fun q1 h5 =>
 ∃ (I1 : List Value -> Heap -> Prop) (μ_1 : List Value -> Heap -> Nat), I1 [(.int .i64 0)] h5 /\
 ∀ (junk1 : Nat -> Value) (n11 : Value) (h6 : Heap), I1 [n11] h6 ->
 pop P (binA .leq 3 n11 (.int .i64 2000)) fun s15 =>
 condM s15
 (pop P (binA .geq 3 n11 f2) fun s20 =>
 guardM (asG s20 true) true (fun k_1 => k_1 y3 h6) h6 fun s22 h7 =>
 guardM (asG s20 true) true (fun k_2 => rop P (loadAt 48 n10) h7 fun s23 =>
 k_2 s23 h7) h7 fun s23b h8 =>
 guardM (asG s20 true) true (fun k_3 => callV P s22 [s23b] h8 fun s24 h9 =>
 k_3 s24 h9) h8 fun s24b h10 =>
 pop P (pickS s20 s24b (Value.bool false)) fun s25 =>
 condM s25
 (K (.tuple #[n11, (Value.bool true)]) h10)
 (rop P (loadAt 26 g4) h10 fun s27 =>
 callM P 130 #[s27, n10] h10 fun s28 h11 =>
 pop P (Op.unary .not s28) fun s29 =>
 condM s29
 (K (.tuple #[(.int .i64 0), (Value.bool false)]) h11)
 (pop P (binA .add 3 n11 (.int .i64 1)) fun s17 =>
 I1 [s17] h11 /\ μ_1 [s17] h11 < μ_1 [n11] h6)))
 (K (.tuple #[(.int .i64 0), (Value.bool false)]) h6)
theorem e82 (g0 : Value) (w1 : Value) (f2 : Value) (y3 : Value) (h : Heap) (K : KQ) : wpA Tryz.prog 30 (anOf [(58, [11])]) (bodyOf Tryz.f82) 1 (fun A h => resA Tryz.prog A h K [.tmp 8, .tmp 9]) (fun _ _ _ => False) (fun A h => resA Tryz.prog A h K [.tmp 8, .tmp 9]) (aargs [g0, w1, f2, y3] 0) h = t82 Tryz.prog g0 w1 f2 y3 h K := by kernel_rfl
theorem c82 (g0 : Value) (w1 : Value) (f2 : Value) (y3 : Value) (h : Heap) (K : KQ) (H : t82 Tryz.prog g0 w1 f2 y3 h K) : callM Tryz.prog 82 #[g0, w1, f2, y3] h K :=
  callM_of_wpA mixed (fn := Tryz.f82) Tryz.func82 (c := bodyOf Tryz.f82) rfl (of_decide_eq_true (by kernel_rfl)) (anOf [(58, [11])]) 26 30 (by kernel_rfl) rfl [.tmp 8, .tmp 9] (by kernel_rfl) (args := [g0, w1, f2, y3]) (by rw [e82]; exact H)
def t83 (P : Program) (g0 : Value) (w1 : Value) (h : Heap) (K : KQ) : Prop :=
 eop P (Instr.box 26 g0) h fun g2 h1 =>
 eop P (Instr.box 48 w1) h1 fun w3 h2 =>
 eop P (Instr.alloc 48 true (.tuple #[])) h2 fun s4 h3 =>
 pop P (Instr.fieldAt 26 g2 0) fun s9 =>
 rop P (loadAt 24 s9) h3 fun s10 =>
 pop P (Instr.fieldAt 48 w3 1) fun s11 =>
 rop P (loadAt 3 s11) h3 fun s12 =>
 pop P (Instr.indexAt 24 s10 s12) fun s13 =>
 rop P (loadAt 29 s13) h3 fun s14 =>
 pop P (lenS 29 3 s14) fun s16 =>
 pop P (binE .eql 3 (.tmp 16) (.const (.int .i64 0)) s16 (.int .i64 0)) fun s17 =>
 condM s17
 (rop P (loadAt 48 w3) h3 fun s18 =>
 uop P (Instr.storeAt 48 s4 s18) h3 fun q1 h4 =>
 rop P (loadAt 48 s4) h4 fun r_1 =>
 K (.tuple #[r_1, (Value.bool false)]) h4)
 (pop P (Instr.fieldAt 48 w3 0) fun s19 =>
 rop P (loadAt 29 s19) h3 fun s20 =>
 callM P 79 #[s20] h3 fun s21 h5 =>
 pop P (Instr.build 48 #[(0, s21)]) fun s22 =>
 eop P (Instr.alloc 48 true (.tuple #[])) h5 fun o7 h6 =>
 uop P (Instr.storeAt 48 o7 s22) h6 fun q2 h7 =>
 pop P (Instr.fieldAt 48 w3 0) fun s23 =>
 rop P (loadAt 29 s23) h7 fun s24 =>
 pop P (Instr.fieldAt 48 w3 1) fun s25 =>
 rop P (loadAt 3 s25) h7 fun s26 =>
 pop P (Instr.indexAt 29 s24 s26) fun s27 =>
 rop P (loadAt 3 s27) h7 fun s28 =>
 pop P (binA .add 3 s28 (.int .i64 1)) fun s29 =>
 pop P (lenS 29 3 s14) fun s31 =>
 pop P (binA .rem 3 s29 s31) fun s32 =>
 pop P (Instr.fieldAt 48 o7 0) fun s33 =>
 rop P (loadAt 29 s33) h7 fun s34 =>
 pop P (Instr.fieldAt 48 w3 1) fun s35 =>
 rop P (loadAt 3 s35) h7 fun s36 =>
 pop P (Instr.indexAt 29 s34 s36) fun s38 =>
 uop P (Instr.storeAt 3 s38 s32) h7 fun q3 h8 =>
 pop P (Instr.indexAt 29 s14 s32) fun s41 =>
 rop P (loadAt 3 s41) h8 fun s42 =>
 pop P (Instr.fieldAt 48 o7 1) fun s43 =>
 uop P (Instr.storeAt 3 s43 s42) h8 fun q4 h9 =>
 rop P (loadAt 48 o7) h9 fun s44 =>
 uop P (Instr.storeAt 48 s4 s44) h9 fun q5 h10 =>
 rop P (loadAt 48 s4) h10 fun r_2 =>
 K (.tuple #[r_2, (Value.bool true)]) h10)
theorem e83 (g0 : Value) (w1 : Value) (h : Heap) (K : KQ) : wpA Tryz.prog 45 (anOf []) (bodyOf Tryz.f83) 1 (fun A h => resA Tryz.prog A h K [.cell 4 48, .tmp 5]) (fun _ _ _ => False) (fun A h => resA Tryz.prog A h K [.cell 4 48, .tmp 5]) (aargs [g0, w1] 0) h = t83 Tryz.prog g0 w1 h K := by kernel_rfl
theorem c83 (g0 : Value) (w1 : Value) (h : Heap) (K : KQ) (H : t83 Tryz.prog g0 w1 h K) : callM Tryz.prog 83 #[g0, w1] h K :=
  callM_of_wpA mixed (fn := Tryz.f83) Tryz.func83 (c := bodyOf Tryz.f83) rfl (of_decide_eq_true (by kernel_rfl)) (anOf []) 43 45 (by kernel_rfl) rfl [.cell 4 48, .tmp 5] (by kernel_rfl) (args := [g0, w1]) (by rw [e83]; exact H)
def t84 (P : Program) (n0 : Value) (a1 : Value) (y2 : Value) (h : Heap) (K : KQ) : Prop :=
 pop P (binA .leq 3 a1 n0) fun s9 =>
 guardM (asG s9 true) true (fun k_1 => k_1 n0 h) h fun s11 h1 =>
 guardM (asG s9 true) true (fun k_2 => k_2 y2 h1) h1 fun s12 h2 =>
 guardM (asG s9 true) true (fun k_3 => pop P (binA .leq 3 s11 s12) fun s13 =>
 k_3 s13 h2) h2 fun s13b h3 =>
 pop P (pickS s9 s13b (Value.bool false)) fun s14 =>
 K s14 h3
theorem e84 (n0 : Value) (a1 : Value) (y2 : Value) (h : Heap) (K : KQ) : wpA Tryz.prog 15 (anOf []) (bodyOf Tryz.f84) 1 (fun A h => resA Tryz.prog A h K [.tmp 6]) (fun _ _ _ => False) (fun A h => resA Tryz.prog A h K [.tmp 6]) (aargs [n0, a1, y2] 0) h = t84 Tryz.prog n0 a1 y2 h K := by kernel_rfl
theorem c84 (n0 : Value) (a1 : Value) (y2 : Value) (h : Heap) (K : KQ) (H : t84 Tryz.prog n0 a1 y2 h K) : callM Tryz.prog 84 #[n0, a1, y2] h K :=
  callM_of_wpA mixed (fn := Tryz.f84) Tryz.func84 (c := bodyOf Tryz.f84) rfl (of_decide_eq_true (by kernel_rfl)) (anOf []) 12 15 (by kernel_rfl) rfl [.tmp 6] (by kernel_rfl) (args := [n0, a1, y2]) (by rw [e84]; exact H)
def t85 (P : Program) (g0 : Value) (w1 : Value) (n2 : Value) (m3 : Value) (h : Heap) (K : KQ) : Prop :=
 eop P (Instr.box 26 g0) h fun g4 h1 =>
 eop P (Instr.box 48 w1) h1 fun w5 h2 =>
 rop P (loadAt 26 g4) h2 fun s9 =>
 rop P (loadAt 48 w5) h2 fun s10 =>
 callM P 74 #[s9, s10] h2 fun s11 h3 =>
 guardM (asG s11 true) true (fun k_1 => k_1 n2 h3) h3 fun s13 h4 =>
 guardM (asG s11 true) true (fun k_2 => k_2 m3 h4) h4 fun s14 h5 =>
 guardM (asG s11 true) true (fun k_3 => callM P 84 #[s13, (.int .i64 0), s14] h5 fun s15 h6 =>
 k_3 s15 h6) h5 fun s15b h7 =>
 pop P (pickS s11 s15b (Value.bool false)) fun s16 =>
 K s16 h7
theorem e85 (g0 : Value) (w1 : Value) (n2 : Value) (m3 : Value) (h : Heap) (K : KQ) : wpA Tryz.prog 17 (anOf []) (bodyOf Tryz.f85) 1 (fun A h => resA Tryz.prog A h K [.tmp 8]) (fun _ _ _ => False) (fun A h => resA Tryz.prog A h K [.tmp 8]) (aargs [g0, w1, n2, m3] 0) h = t85 Tryz.prog g0 w1 n2 m3 h K := by kernel_rfl
theorem c85 (g0 : Value) (w1 : Value) (n2 : Value) (m3 : Value) (h : Heap) (K : KQ) (H : t85 Tryz.prog g0 w1 n2 m3 h K) : callM Tryz.prog 85 #[g0, w1, n2, m3] h K :=
  callM_of_wpA mixed (fn := Tryz.f85) Tryz.func85 (c := bodyOf Tryz.f85) rfl (of_decide_eq_true (by kernel_rfl)) (anOf []) 13 17 (by kernel_rfl) rfl [.tmp 8] (by kernel_rfl) (args := [g0, w1, n2, m3]) (by rw [e85]; exact H)
def t86 (P : Program) (w0 : Value) (h : Heap) (K : KQ) : Prop :=
 eop P (Instr.box 48 w0) h fun w1 h1 =>
 eop P (Instr.alloc 48 true (.tuple #[])) h1 fun s2 h2 =>
 pop P (Instr.fieldAt 48 w1 0) fun s3 =>
 rop P (loadAt 29 s3) h2 fun s4 =>
 pop P (Instr.fieldAt 48 w1 1) fun s6 =>
 rop P (loadAt 3 s6) h2 fun s7 =>
 callM P 78 #[s4] h2 fun s5 h3 =>
 (∀ w : World, w.heap = h3 -> (loadAt 3 s6).run P w = .ok s7 w) /\
 pop P (Instr.build 48 #[(0, s5), (1, s7)]) fun s8 =>
 uop P (Instr.storeAt 48 s2 s8) h3 fun q1 h4 =>
 rop P (loadAt 48 s2) h4 fun r_1 =>
 K r_1 h4
theorem e86 (w0 : Value) (h : Heap) (K : KQ) : wpA Tryz.prog 9 (anOf []) (bodyOf Tryz.f86) 1 (fun A h => resA Tryz.prog A h K [.cell 2 48]) (fun _ _ _ => False) (fun A h => resA Tryz.prog A h K [.cell 2 48]) (aargs [w0] 0) h = t86 Tryz.prog w0 h K := by kernel_rfl
theorem c86 (w0 : Value) (h : Heap) (K : KQ) (H : t86 Tryz.prog w0 h K) : callM Tryz.prog 86 #[w0] h K :=
  callM_of_wpA mixed (fn := Tryz.f86) Tryz.func86 (c := bodyOf Tryz.f86) rfl (of_decide_eq_true (by kernel_rfl)) (anOf []) 8 9 (by kernel_rfl) rfl [.cell 2 48] (by kernel_rfl) (args := [w0]) (by rw [e86]; exact H)
def t87 (P : Program) (g0 : Value) (w1 : Value) (n2 : Value) (a3 : Value) (h : Heap) (K : KQ) : Prop :=
 eop P (Instr.box 26 g0) h fun g4 h1 =>
 ∃ (I1 : List Value -> Heap -> Prop) (μ_1 : List Value -> Heap -> Nat), I1 [(.int .i64 0)] h1 /\
 ∀ (junk1 : Nat -> Value) (s11 : Value) (h2 : Heap), I1 [s11] h2 ->
 pop P (binA .lss 3 s11 n2) fun s12 =>
 condM s12
 (pop P (nilS w1) fun s14 =>
 pop P (Instr.fieldAt 48 s14 1) fun s15 =>
 rop P (loadAt 3 s15) h2 fun s16 =>
 rop P (loadAt 26 g4) h2 fun s17 =>
 callM P 130 #[s17, w1] h2 fun s19 h3 =>
 pop P (Op.unary .not s19) fun s20 =>
 condM s20
 (K (Value.bool false) h3)
 (callV P a3 [s16] h3 fun s23 h4 =>
 pop P (binA .add 3 s11 (.int .i64 1)) fun s24 =>
 I1 [s24] h4 /\ μ_1 [s24] h4 < μ_1 [s11] h2))
 (K (Value.bool true) h2)
theorem e87 (g0 : Value) (w1 : Value) (n2 : Value) (a3 : Value) (h : Heap) (K : KQ) : wpA Tryz.prog 25 (anOf [(26, [11])]) (bodyOf Tryz.f87) 1 (fun A h => resA Tryz.prog A h K [.tmp 8]) (fun _ _ _ => False) (fun A h => resA Tryz.prog A h K [.tmp 8]) (aargs [g0, w1, n2, a3] 0) h = t87 Tryz.prog g0 w1 n2 a3 h K := by kernel_rfl
theorem c87 (g0 : Value) (w1 : Value) (n2 : Value) (a3 : Value) (h : Heap) (K : KQ) (H : t87 Tryz.prog g0 w1 n2 a3 h K) : callM Tryz.prog 87 #[g0, w1, n2, a3] h K :=
  callM_of_wpA mixed (fn := Tryz.f87) Tryz.func87 (c := bodyOf Tryz.f87) rfl (of_decide_eq_true (by kernel_rfl)) (anOf [(26, [11])]) 21 25 (by kernel_rfl) rfl [.tmp 8] (by kernel_rfl) (args := [g0, w1, n2, a3]) (by rw [e87]; exact H)
def t88 (P : Program) (s0 : Value) (h : Heap) (K : KQ) : Prop :=
 K (.tuple #[]) h
theorem e88 (s0 : Value) (h : Heap) (K : KQ) : wpA Tryz.prog 2 (anOf []) (bodyOf Tryz.f88) 1 (fun A h => resA Tryz.prog A h K []) (fun _ _ _ => False) (fun A h => resA Tryz.prog A h K []) (aargs [s0] 0) h = t88 Tryz.prog s0 h K := by kernel_rfl
theorem c88 (s0 : Value) (h : Heap) (K : KQ) (H : t88 Tryz.prog s0 h K) : callM Tryz.prog 88 #[s0] h K :=
  callM_of_wpA mixed (fn := Tryz.f88) Tryz.func88 (c := bodyOf Tryz.f88) rfl (of_decide_eq_true (by kernel_rfl)) (anOf []) 1 2 (by kernel_rfl) rfl [] (by kernel_rfl) (args := [s0]) (by rw [e88]; exact H)
def t89 (P : Program) (z0 : Value) (h : Heap) (K : KQ) : Prop :=
 eop P (Instr.alloc 26 true (.tuple #[])) h fun s2 h1 =>
 pop P (Instr.build 74 #[(0, z0)]) fun s5 =>
 eop P (Instr.box 74 s5) h1 fun s6 h2 =>
 callM P 131 #[s6] h2 fun s8 h3 =>
 uop P (Instr.storeAt 26 s2 s8) h3 fun q1 h4 =>
 rop P (loadAt 26 s2) h4 fun r_1 =>
 K r_1 h4
theorem e89 (z0 : Value) (h : Heap) (K : KQ) : wpA Tryz.prog 9 (anOf []) (bodyOf Tryz.f89) 1 (fun A h => resA Tryz.prog A h K [.cell 2 26]) (fun _ _ _ => False) (fun A h => resA Tryz.prog A h K [.cell 2 26]) (aargs [z0] 0) h = t89 Tryz.prog z0 h K := by kernel_rfl
theorem c89 (z0 : Value) (h : Heap) (K : KQ) (H : t89 Tryz.prog z0 h K) : callM Tryz.prog 89 #[z0] h K :=
  callM_of_wpA mixed (fn := Tryz.f89) Tryz.func89 (c := bodyOf Tryz.f89) rfl (of_decide_eq_true (by kernel_rfl)) (anOf []) 8 9 (by kernel_rfl) rfl [.cell 2 26] (by kernel_rfl) (args := [z0]) (by rw [e89]; exact H)
def t90 (P : Program) (g0 : Value) (p1 : Value) (h : Heap) (K : KQ) : Prop :=
 eop P (Instr.box 26 g0) h fun g2 h1 =>
 rop P (loadAt 26 g2) h1 fun s5 =>
 pop P (Instr.fieldAt 26 g2 0) fun s9 =>
 rop P (loadAt 24 s9) h1 fun s10 =>
 pop P (Instr.indexAt 24 s10 p1) fun s12 =>
 rop P (loadAt 29 s12) h1 fun s13 =>
 pop P (lenS 29 3 s13) fun s14 =>
 callM P 133 #[s5, p1] h1 fun s7 h2 =>
 (∀ w : World, w.heap = h2 -> (loadAt 29 s12).run P w = .ok s13 w) /\
 (∀ w : World, w.heap = h2 -> (loadAt 24 s9).run P w = .ok s10 w) /\
 callM P 132 #[s7] h2 fun s8 h3 =>
 (∀ w : World, w.heap = h3 -> (loadAt 29 s12).run P w = .ok s13 w) /\
 (∀ w : World, w.heap = h3 -> (loadAt 24 s9).run P w = .ok s10 w) /\
 pop P (binA .mul 3 s8 s14) fun s15 =>
 K s15 h3
theorem e90 (g0 : Value) (p1 : Value) (h : Heap) (K : KQ) : wpA Tryz.prog 16 (anOf []) (bodyOf Tryz.f90) 1 (fun A h => resA Tryz.prog A h K [.tmp 4]) (fun _ _ _ => False) (fun A h => resA Tryz.prog A h K [.tmp 4]) (aargs [g0, p1] 0) h = t90 Tryz.prog g0 p1 h K := by kernel_rfl
theorem c90 (g0 : Value) (p1 : Value) (h : Heap) (K : KQ) (H : t90 Tryz.prog g0 p1 h K) : callM Tryz.prog 90 #[g0, p1] h K :=
  callM_of_wpA mixed (fn := Tryz.f90) Tryz.func90 (c := bodyOf Tryz.f90) rfl (of_decide_eq_true (by kernel_rfl)) (anOf []) 14 16 (by kernel_rfl) rfl [.tmp 4] (by kernel_rfl) (args := [g0, p1]) (by rw [e90]; exact H)
def t91 (P : Program) (g0 : Value) (h : Heap) (K : KQ) : Prop :=
 eop P (Instr.box 26 g0) h fun g1 h1 =>
 pop P (Instr.fieldAt 26 g1 0) fun s6 =>
 rop P (loadAt 24 s6) h1 fun s7 =>
 pop P (lenS 24 3 s7) fun s8 =>
 callM P 104 #[s8, (.int .i64 1), (.int .i64 8)] h1 fun s10 h2 =>
 pop P (Op.unary .not s10) fun s11 =>
 condM s11
 (K (Value.bool false) h2)
 (pop P (Instr.fieldAt 26 g1 0) fun s12 =>
 rop P (loadAt 24 s12) h2 fun s13 =>
 pop P (lenS 24 3 s13) fun s14 =>
 ∃ (I1 : List Value -> Heap -> Prop) (μ_1 : List Value -> Heap -> Nat), I1 [(.int .i64 0)] h2 /\
 ∀ (junk1 : Nat -> Value) (s15 : Value) (h3 : Heap), I1 [s15] h3 ->
 pop P (binA .lss 3 s15 s14) fun s16 =>
 condM s16
 (pop P (Instr.indexAt 24 s13 s15) fun s17 =>
 rop P (loadAt 29 s17) h3 fun s18 =>
 pop P (lenS 29 3 s18) fun s20 =>
 pop P (binA .gtr 3 s20 (.int .i64 5)) fun s21 =>
 guardM (asG s21 false) false (fun k_1 => k_1 s18 h3) h3 fun s23 h4 =>
 guardM (asG s21 false) false (fun k_2 => k_2 s8 h4) h4 fun s24 h5 =>
 guardM (asG s21 false) false (fun k_3 => pop P (binA .sub 3 s24 (.int .i64 1)) fun s25 =>
 k_3 s25 h5) h5 fun s25b h6 =>
 guardM (asG s21 false) false (fun k_4 => callM P 56 #[s23, (.int .i64 0), s25b] h6 fun s26 h7 =>
 k_4 s26 h7) h6 fun s26b h8 =>
 guardM (asG s21 false) false (fun k_5 => pop P (Op.unary .not s26b) fun s27 =>
 k_5 s27 h8) h8 fun s27b h9 =>
 pop P (pickS s21 (Value.bool true) s27b) fun s28 =>
 condM s28
 (K (Value.bool false) h9)
 (pop P (binA .add 3 s15 (.int .i64 1)) fun s29 =>
 I1 [s29] h9 /\ μ_1 [s29] h9 < μ_1 [s15] h3))
 (K (Value.bool true) h3))
theorem e91 (g0 : Value) (h : Heap) (K : KQ) : wpA Tryz.prog 30 (anOf [(122, [15])]) (bodyOf Tryz.f91) 1 (fun A h => resA Tryz.prog A h K [.tmp 2]) (fun _ _ _ => False) (fun A h => resA Tryz.prog A h K [.tmp 2]) (aargs [g0] 0) h = t91 Tryz.prog g0 h K := by kernel_rfl
theorem c91 (g0 : Value) (h : Heap) (K : KQ) (H : t91 Tryz.prog g0 h K) : callM Tryz.prog 91 #[g0] h K :=
  callM_of_wpA mixed (fn := Tryz.f91) Tryz.func91 (c := bodyOf Tryz.f91) rfl (of_decide_eq_true (by kernel_rfl)) (anOf [(122, [15])]) 29 30 (by kernel_rfl) rfl [.tmp 2] (by kernel_rfl) (args := [g0]) (by rw [e91]; exact H)
def t92 (P : Program) (m0 : Value) (h : Heap) (K : KQ) : Prop :=
 pop P (lenS 24 3 m0) fun s11 =>
 pop P (binE .eql 3 (.tmp 11) (.const (.int .i64 0)) s11 (.int .i64 0)) fun s12 =>
 condM s12
 (K (.int .i64 1) h)
 (pop P (Instr.indexAt 24 m0 (.int .i64 0)) fun s14 =>
 rop P (loadAt 29 s14) h fun s15 =>
 pop P (lenS 29 3 s15) fun s16 =>
 ∃ (I1 : List Value -> Heap -> Prop) (μ_1 : List Value -> Heap -> Nat), I1 [(.int .i64 0), (.int .i64 1), (.int .i64 0)] h /\
 ∀ (junk1 : Nat -> Value) (v3 : Value) (z4 : Value) (s17 : Value) (h1 : Heap), I1 [v3, z4, s17] h1 ->
 pop P (binA .lss 3 s17 s16) fun s18 =>
 condM s18
 (pop P (Instr.indexAt 29 s15 s17) fun s20 =>
 rop P (loadAt 3 s20) h1 fun s21 =>
 ∃ J1 : List Value -> Heap -> Prop, (pop P (binE .neq 3 (.tmp 22) (.const (.int .i64 0)) s21 (.int .i64 0)) fun s23 =>
 condM s23
 (pop P (Instr.sliceAt 24 m0 (some (.int .i64 1)) none none) fun s25 =>
 pop P (lenS 24 3 s25) fun s26 =>
 ∃ (I2 : List Value -> Heap -> Prop) (μ_2 : List Value -> Heap -> Nat), I2 [(Value.slice none 0 0), (.int .i64 0)] h1 /\
 ∀ (junk2 : Nat -> Value) (r7 : Value) (s27 : Value) (h2 : Heap), I2 [r7, s27] h2 ->
 pop P (binA .lss 3 s27 s26) fun s28 =>
 condM s28
 (pop P (Instr.indexAt 24 s25 s27) fun s29 =>
 rop P (loadAt 29 s29) h2 fun s30 =>
 pop P (Instr.sliceAt 29 s30 none (some s17) none) fun s34 =>
 pop P (binA .add 3 s17 (.int .i64 1)) fun s38 =>
 pop P (Instr.sliceAt 29 s30 (some s38) none none) fun s39 =>
 callM P 79 #[s34] h2 fun s35 h3 =>
 eop P (appS 29 29 29 s35 s39) h3 fun s40 h4 =>
 eop P (buildSlice 24 1 #[(0, s40)]) h4 fun s41 h5 =>
 eop P (appS 24 24 24 r7 s41) h5 fun s42 h6 =>
 pop P (binA .add 3 s27 (.int .i64 1)) fun s43 =>
 I2 [s42, s43] h6 /\ μ_2 [s42, s43] h6 < μ_2 [r7, s27] h2)
 (pop P (binA .mul 3 z4 s21) fun s47 =>
 callM P 92 #[r7] h2 fun s49 h7 =>
 pop P (binA .mul 3 s47 s49) fun s50 =>
 pop P (binA .add 3 v3 s50) fun s51 =>
 J1 [s51] h7))
 (J1 [v3] h1)) /\
 ∀ (junk3 : Nat -> Value) (s3a : Value) (h8 : Heap), J1 [s3a] h8 ->
 pop P (Op.unary .neg z4) fun s53 =>
 pop P (binA .add 3 s17 (.int .i64 1)) fun s54 =>
 I1 [s3a, s53, s54] h8 /\ μ_1 [s3a, s53, s54] h8 < μ_1 [v3, z4, s17] h1)
 (K v3 h1))
theorem e92 (m0 : Value) (h : Heap) (K : KQ) : wpA Tryz.prog 56 (anOf [(122, [3, 4, 17]), (7833, [3]), (1002666, [7, 27])]) (bodyOf Tryz.f92) 1 (fun A h => resA Tryz.prog A h K [.tmp 2]) (fun _ _ _ => False) (fun A h => resA Tryz.prog A h K [.tmp 2]) (aargs [m0] 0) h = t92 Tryz.prog m0 h K := by kernel_rfl
theorem c92 (m0 : Value) (h : Heap) (K : KQ) (H : t92 Tryz.prog m0 h K) : callM Tryz.prog 92 #[m0] h K :=
  callM_of_wpA mixed (fn := Tryz.f92) Tryz.func92 (c := bodyOf Tryz.f92) rfl (of_decide_eq_true (by kernel_rfl)) (anOf [(122, [3, 4, 17]), (7833, [3]), (1002666, [7, 27])]) 55 56 (by kernel_rfl) rfl [.tmp 2] (by kernel_rfl) (args := [m0]) (by rw [e92]; exact H)
def t93 (P : Program) (g0 : Value) (e1 : Value) (h : Heap) (K : KQ) : Prop :=
 eop P (Instr.box 26 g0) h fun g2 h1 =>
 pop P (Instr.fieldAt 26 g2 0) fun s11 =>
 rop P (loadAt 24 s11) h1 fun s12 =>
 pop P (lenS 24 3 s12) fun s13 =>
 ∃ (I1 : List Value -> Heap -> Prop) (μ_1 : List Value -> Heap -> Nat), I1 [(Value.slice none 0 0), (.int .i64 0)] h1 /\
 ∀ (junk1 : Nat -> Value) (o5 : Value) (s14 : Value) (h2 : Heap), I1 [o5, s14] h2 ->
 pop P (binA .lss 3 s14 s13) fun s15 =>
 condM s15
 (pop P (Instr.indexAt 24 s12 s14) fun s17 =>
 rop P (loadAt 29 s17) h2 fun s18 =>
 pop P (binE .eql 3 (.tmp 19) (.tmp 20) s14 e1) fun s21 =>
 condM s21
 (pop P (binA .add 3 s14 (.int .i64 1)) fun s56 =>
 I1 [o5, s56] h2 /\ μ_1 [o5, s56] h2 < μ_1 [o5, s14] h2)
 (pop P (Instr.fieldAt 26 g2 0) fun s22 =>
 rop P (loadAt 24 s22) h2 fun s23 =>
 pop P (lenS 24 3 s23) fun s24 =>
 eop P (Instr.makeSlice 29 s24 s24) h2 fun s25 h3 =>
 pop P (lenS 29 3 s18) fun s29 =>
 pop P (Instr.indexAt 29 s25 s14) fun s30 =>
 uop P (Instr.storeAt 3 s30 s29) h3 fun q1 h4 =>
 pop P (lenS 29 3 s18) fun s32 =>
 ∃ (I2 : List Value -> Heap -> Prop) (μ_2 : List Value -> Heap -> Nat), I2 [(.int .i64 0)] h4 /\
 ∀ (junk2 : Nat -> Value) (s33 : Value) (h5 : Heap), I2 [s33] h5 ->
 pop P (binA .lss 3 s33 s32) fun s34 =>
 condM s34
 (pop P (Instr.indexAt 29 s18 s33) fun s35 =>
 rop P (loadAt 3 s35) h5 fun s36 =>
 pop P (Instr.indexAt 29 s25 s36) fun s39 =>
 rop P (loadAt 3 s39) h5 fun s40 =>
 pop P (binA .sub 3 s40 (.int .i64 1)) fun s41 =>
 pop P (Instr.indexAt 29 s25 s36) fun s42 =>
 uop P (Instr.storeAt 3 s42 s41) h5 fun q2 h6 =>
 pop P (binA .add 3 s33 (.int .i64 1)) fun s43 =>
 I2 [s43] h6 /\ μ_2 [s43] h6 < μ_2 [s33] h5)
 (pop P (Instr.sliceAt 29 s25 none (some e1) none) fun s47 =>
 pop P (binA .add 3 e1 (.int .i64 1)) fun s51 =>
 pop P (Instr.sliceAt 29 s25 (some s51) none none) fun s52 =>
 callM P 79 #[s47] h5 fun s48 h7 =>
 eop P (appS 29 29 29 s48 s52) h7 fun s53 h8 =>
 eop P (buildSlice 24 1 #[(0, s53)]) h8 fun s54 h9 =>
 eop P (appS 24 24 24 o5 s54) h9 fun s55 h10 =>
 pop P (binA .add 3 s14 (.int .i64 1)) fun s56b =>
 I1 [s55, s56b] h10 /\ μ_1 [s55, s56b] h10 < μ_1 [o5, s14] h2)))
 (K o5 h2)
theorem e93 (g0 : Value) (e1 : Value) (h : Heap) (K : KQ) : wpA Tryz.prog 58 (anOf [(58, [5, 14]), (239226, [33])]) (bodyOf Tryz.f93) 1 (fun A h => resA Tryz.prog A h K [.tmp 4]) (fun _ _ _ => False) (fun A h => resA Tryz.prog A h K [.tmp 4]) (aargs [g0, e1] 0) h = t93 Tryz.prog g0 e1 h K := by kernel_rfl
theorem c93 (g0 : Value) (e1 : Value) (h : Heap) (K : KQ) (H : t93 Tryz.prog g0 e1 h K) : callM Tryz.prog 93 #[g0, e1] h K :=
  callM_of_wpA mixed (fn := Tryz.f93) Tryz.func93 (c := bodyOf Tryz.f93) rfl (of_decide_eq_true (by kernel_rfl)) (anOf [(58, [5, 14]), (239226, [33])]) 56 58 (by kernel_rfl) rfl [.tmp 4] (by kernel_rfl) (args := [g0, e1]) (by rw [e93]; exact H)
def t94 (P : Program) (g0 : Value) (d1 : Value) (h : Heap) (K : KQ) : Prop :=
 eop P (Instr.box 26 g0) h fun g2 h1 =>
 rop P (loadAt 26 g2) h1 fun s5 =>
 callM P 68 #[s5] h1 fun s6 h2 =>
 guardM (asG s6 true) true (fun k_1 => k_1 d1 h2) h2 fun s8 h3 =>
 guardM (asG s6 true) true (fun k_2 => pop P (Instr.makeFunc (Fn.func 134) #[] #[g2]) fun s9 =>
 k_2 s9 h3) h3 fun s9b h4 =>
 guardM (asG s6 true) true (fun k_3 => callM P 107 #[s8, s9b] h4 fun s10 h5 =>
 k_3 s10 h5) h4 fun s10b h6 =>
 guardM (asG s6 true) true (fun k_4 => pop P (Op.unary .not s10b) fun s11 =>
 k_4 s11 h6) h6 fun s11b h7 =>
 pop P (pickS s6 s11b (Value.bool false)) fun s12 =>
 K s12 h7
theorem e94 (g0 : Value) (d1 : Value) (h : Heap) (K : KQ) : wpA Tryz.prog 13 (anOf []) (bodyOf Tryz.f94) 1 (fun A h => resA Tryz.prog A h K [.tmp 4]) (fun _ _ _ => False) (fun A h => resA Tryz.prog A h K [.tmp 4]) (aargs [g0, d1] 0) h = t94 Tryz.prog g0 d1 h K := by kernel_rfl
theorem c94 (g0 : Value) (d1 : Value) (h : Heap) (K : KQ) (H : t94 Tryz.prog g0 d1 h K) : callM Tryz.prog 94 #[g0, d1] h K :=
  callM_of_wpA mixed (fn := Tryz.f94) Tryz.func94 (c := bodyOf Tryz.f94) rfl (of_decide_eq_true (by kernel_rfl)) (anOf []) 11 13 (by kernel_rfl) rfl [.tmp 4] (by kernel_rfl) (args := [g0, d1]) (by rw [e94]; exact H)
def t95 (P : Program) (g0 : Value) (i1 : Value) (w2 : Value) (h : Heap) (K : KQ) : Prop :=
 eop P (Instr.box 26 g0) h fun g3 h1 =>
 pop P (Instr.fieldAt 26 g3 0) fun s8 =>
 rop P (loadAt 24 s8) h1 fun s9 =>
 pop P (lenS 24 3 s9) fun s10 =>
 eop P (Instr.makeSlice 29 s10 s10) h1 fun s11 h2 =>
 ∃ (I1 : List Value -> Heap -> Prop) (μ_1 : List Value -> Heap -> Nat), I1 [] h2 /\
 ∀ (junk1 : Nat -> Value) (h3 : Heap), I1 [] h3 ->
 callV P w2 [s11] h3 fun s14 h4 =>
 pop P (Op.unary .not s14) fun s15 =>
 condM s15
 (K (.tuple #[]) h4)
 (pop P (lenS 29 3 s11) fun s17 =>
 pop P (binA .sub 3 s17 (.int .i64 1)) fun s18 =>
 ∃ (I2 : List Value -> Heap -> Prop) (μ_2 : List Value -> Heap -> Nat), I2 [s18] h4 /\
 ∀ (junk2 : Nat -> Value) (p7 : Value) (h5 : Heap), I2 [p7] h5 ->
 pop P (binA .geq 3 p7 (.int .i64 0)) fun s20 =>
 guardM (asG s20 true) true (fun k_1 => k_1 p7 h5) h5 fun s22 h6 =>
 guardM (asG s20 true) true (fun k_2 => k_2 i1 h6) h6 fun s23 h7 =>
 guardM (asG s20 true) true (fun k_3 => pop P (binE .eql 3 (.tmp 22) (.tmp 23) s22 s23) fun s24 =>
 k_3 s24 h7) h7 fun s24b h8 =>
 guardM (asG s20 true) true (fun k_4 => k_4 s24b h8) h8 fun s25 h9 =>
 guardM (asG s25 false) false (fun k_5 => k_5 s11 h9) h9 fun s26 h10 =>
 guardM (asG s25 false) false (fun k_6 => k_6 p7 h10) h10 fun s27 h11 =>
 guardM (asG s25 false) false (fun k_7 => pop P (Instr.indexAt 29 s26 s27) fun s28 =>
 k_7 s28 h11) h11 fun s28b h12 =>
 guardM (asG s25 false) false (fun k_8 => rop P (loadAt 3 s28b) h12 fun s29 =>
 k_8 s29 h12) h12 fun s29b h13 =>
 guardM (asG s25 false) false (fun k_9 => pop P (Instr.fieldAt 26 g3 0) fun s30 =>
 k_9 s30 h13) h13 fun s30b h14 =>
 guardM (asG s25 false) false (fun k_10 => rop P (loadAt 24 s30b) h14 fun s31 =>
 k_10 s31 h14) h14 fun s31b h15 =>
 guardM (asG s25 false) false (fun k_11 => k_11 p7 h15) h15 fun s32 h16 =>
 guardM (asG s25 false) false (fun k_12 => pop P (Instr.indexAt 24 s31b s32) fun s33 =>
 k_12 s33 h16) h16 fun s33b h17 =>
 guardM (asG s25 false) false (fun k_13 => rop P (loadAt 29 s33b) h17 fun s34 =>
 k_13 s34 h17) h17 fun s34b h18 =>
 guardM (asG s25 false) false (fun k_14 => pop P (lenS 29 3 s34b) fun s35 =>
 k_14 s35 h18) h18 fun s35b h19 =>
 guardM (asG s25 false) false (fun k_15 => pop P (binA .sub 3 s35b (.int .i64 1)) fun s36 =>
 k_15 s36 h19) h19 fun s36b h20 =>
 guardM (asG s25 false) false (fun k_16 => pop P (binA .geq 3 s29b s36b) fun s37 =>
 k_16 s37 h20) h20 fun s37b h21 =>
 guardM (asG s20 true) true (fun k_17 => pop P (pickS s25 (Value.bool true) s37b) fun s38 =>
 k_17 s38 h21) h21 fun s38b h22 =>
 pop P (pickS s20 s38b (Value.bool false)) fun s39 =>
 condM s39
 (pop P (Instr.indexAt 29 s11 p7) fun s42 =>
 uop P (Instr.storeAt 3 s42 (.int .i64 0)) h22 fun q1 h23 =>
 pop P (binA .sub 3 p7 (.int .i64 1)) fun s44 =>
 I2 [s44] h23 /\ μ_2 [s44] h23 < μ_2 [p7] h5)
 (pop P (binA .lss 3 p7 (.int .i64 0)) fun s46 =>
 condM s46
 (K (.tuple #[]) h22)
 (pop P (Instr.indexAt 29 s11 p7) fun s49 =>
 rop P (loadAt 3 s49) h22 fun s50 =>
 pop P (binA .add 3 s50 (.int .i64 1)) fun s51 =>
 pop P (Instr.indexAt 29 s11 p7) fun s52 =>
 uop P (Instr.storeAt 3 s52 s51) h22 fun q2 h24 =>
 I1 [] h24 /\ μ_1 [] h24 < μ_1 [] h3)))
theorem e95 (g0 : Value) (i1 : Value) (w2 : Value) (h : Heap) (K : KQ) : wpA Tryz.prog 53 (anOf [(14, []), (908, [7])]) (bodyOf Tryz.f95) 1 (fun A h => resA Tryz.prog A h K []) (fun _ _ _ => False) (fun A h => resA Tryz.prog A h K []) (aargs [g0, i1, w2] 0) h = t95 Tryz.prog g0 i1 w2 h K := by kernel_rfl
theorem c95 (g0 : Value) (i1 : Value) (w2 : Value) (h : Heap) (K : KQ) (H : t95 Tryz.prog g0 i1 w2 h K) : callM Tryz.prog 95 #[g0, i1, w2] h K :=
  callM_of_wpA mixed (fn := Tryz.f95) Tryz.func95 (c := bodyOf Tryz.f95) rfl (of_decide_eq_true (by kernel_rfl)) (anOf [(14, []), (908, [7])]) 50 53 (by kernel_rfl) rfl [] (by kernel_rfl) (args := [g0, i1, w2]) (by rw [e95]; exact H)
def t96 (P : Program) (r0 : Value) (s1 : Value) (s2 : Value) (s3 : Value) (h : Heap) (K : KQ) : Prop :=
 rop P (loadAt 3 s1) h fun s8 =>
 pop P (Instr.build 48 #[(0, r0), (1, s8)]) fun s9 =>
 eop P (Instr.alloc 48 true (.tuple #[])) h fun w6 h1 =>
 uop P (Instr.storeAt 48 w6 s9) h1 fun q1 h2 =>
 rop P (loadAt 26 s2) h2 fun s10 =>
 rop P (loadAt 48 w6) h2 fun s11 =>
 callM P 75 #[s10, s11] h2 fun s12 h3 =>
 condM s12
 (rop P (loadAt 62 s3) h3 fun s13 =>
 rop P (loadAt 48 w6) h3 fun s14 =>
 callM P 86 #[s14] h3 fun s15 h4 =>
 (∀ w : World, w.heap = h4 -> (loadAt 62 s3).run P w = .ok s13 w) /\
 eop P (buildSlice 62 1 #[(0, s15)]) h4 fun s16 h5 =>
 (∀ w : World, w.heap = h5 -> (loadAt 62 s3).run P w = .ok s13 w) /\
 eop P (appS 62 62 62 s13 s16) h5 fun s17 h6 =>
 uop P (Instr.storeAt 62 s3 s17) h6 fun q2 h7 =>
 K (Value.bool true) h7)
 (K (Value.bool true) h3)
theorem e96 (r0 : Value) (s1 : Value) (s2 : Value) (s3 : Value) (h : Heap) (K : KQ) : wpA Tryz.prog 18 (anOf []) (bodyOf Tryz.f96) 1 (fun A h => resA Tryz.prog A h K [.tmp 5]) (fun _ _ _ => False) (fun A h => resA Tryz.prog A h K [.tmp 5]) (aargs [r0, s1, s2, s3] 0) h = t96 Tryz.prog r0 s1 s2 s3 h K := by kernel_rfl
theorem c96 (r0 : Value) (s1 : Value) (s2 : Value) (s3 : Value) (h : Heap) (K : KQ) (H : t96 Tryz.prog r0 s1 s2 s3 h K) : callM Tryz.prog 96 #[r0, s1, s2, s3] h K :=
  callM_of_wpA mixed (fn := Tryz.f96) Tryz.func96 (c := bodyOf Tryz.f96) rfl (of_decide_eq_true (by kernel_rfl)) (anOf []) 14 18 (by kernel_rfl) rfl [.tmp 5] (by kernel_rfl) (args := [r0, s1, s2, s3]) (by rw [e96]; exact H)
def t97 (P : Program) (z0 : Value) (h : Heap) (K : KQ) : Prop :=
 eop P (Instr.alloc 26 true (.tuple #[])) h fun s2 h1 =>
 pop P (Instr.build 74 #[(0, z0)]) fun s6 =>
 eop P (Instr.box 74 s6) h1 fun s7 h2 =>
 callM P 105 #[s7] h2 fun s9 h3 =>
 pop P (extract s9 0) fun s10 =>
 pop P (extract s9 1) fun s11 =>
 uop P (Instr.storeAt 26 s2 s10) h3 fun q1 h4 =>
 rop P (loadAt 26 s2) h4 fun r_1 =>
 K (.tuple #[r_1, s11]) h4
theorem e97 (z0 : Value) (h : Heap) (K : KQ) : wpA Tryz.prog 12 (anOf []) (bodyOf Tryz.f97) 1 (fun A h => resA Tryz.prog A h K [.cell 2 26, .tmp 3]) (fun _ _ _ => False) (fun A h => resA Tryz.prog A h K [.cell 2 26, .tmp 3]) (aargs [z0] 0) h = t97 Tryz.prog z0 h K := by kernel_rfl
theorem c97 (z0 : Value) (h : Heap) (K : KQ) (H : t97 Tryz.prog z0 h K) : callM Tryz.prog 97 #[z0] h K :=
  callM_of_wpA mixed (fn := Tryz.f97) Tryz.func97 (c := bodyOf Tryz.f97) rfl (of_decide_eq_true (by kernel_rfl)) (anOf []) 11 12 (by kernel_rfl) rfl [.cell 2 26, .tmp 3] (by kernel_rfl) (args := [z0]) (by rw [e97]; exact H)
def t98 (P : Program) (g0 : Value) (p1 : Value) (h : Heap) (K : KQ) : Prop :=
 eop P (Instr.box 26 g0) h fun g2 h1 =>
 rop P (loadAt 26 g2) h1 fun s5 =>
 callM P 91 #[s5] h1 fun s6 h2 =>
 guardM (asG s6 true) true (fun k_1 => k_1 p1 h2) h2 fun s8 h3 =>
 guardM (asG s6 true) true (fun k_2 => pop P (Instr.fieldAt 26 g2 0) fun s9 =>
 k_2 s9 h3) h3 fun s9b h4 =>
 guardM (asG s6 true) true (fun k_3 => rop P (loadAt 24 s9b) h4 fun s10 =>
 k_3 s10 h4) h4 fun s10b h5 =>
 guardM (asG s6 true) true (fun k_4 => pop P (lenS 24 3 s10b) fun s11 =>
 k_4 s11 h5) h5 fun s11b h6 =>
 guardM (asG s6 true) true (fun k_5 => pop P (binA .sub 3 s11b (.int .i64 1)) fun s12 =>
 k_5 s12 h6) h6 fun s12b h7 =>
 guardM (asG s6 true) true (fun k_6 => callM P 104 #[s8, (.int .i64 0), s12b] h7 fun s13 h8 =>
 k_6 s13 h8) h7 fun s13b h9 =>
 pop P (pickS s6 s13b (Value.bool false)) fun s14 =>
 K s14 h9
theorem e98 (g0 : Value) (p1 : Value) (h : Heap) (K : KQ) : wpA Tryz.prog 15 (anOf []) (bodyOf Tryz.f98) 1 (fun A h => resA Tryz.prog A h K [.tmp 4]) (fun _ _ _ => False) (fun A h => resA Tryz.prog A h K [.tmp 4]) (aargs [g0, p1] 0) h = t98 Tryz.prog g0 p1 h K := by kernel_rfl
theorem c98 (g0 : Value) (p1 : Value) (h : Heap) (K : KQ) (H : t98 Tryz.prog g0 p1 h K) : callM Tryz.prog 98 #[g0, p1] h K :=
  callM_of_wpA mixed (fn := Tryz.f98) Tryz.func98 (c := bodyOf Tryz.f98) rfl (of_decide_eq_true (by kernel_rfl)) (anOf []) 13 15 (by kernel_rfl) rfl [.tmp 4] (by kernel_rfl) (args := [g0, p1]) (by rw [e98]; exact H)
def t99 (P : Program) (g0 : Value) (e1 : Value) (m2 : Value) (h : Heap) (K : KQ) : Prop :=
 eop P (Instr.box 26 g0) h fun g3 h1 =>
 rop P (loadAt 26 g3) h1 fun s8 =>
 pop P (Instr.fieldAt 26 g3 0) fun s10 =>
 rop P (loadAt 24 s10) h1 fun s11 =>
 pop P (lenS 24 3 s11) fun s12 =>
 eop P (Instr.makeSlice 29 s12 s12) h1 fun s13 h2 =>
 (∀ w : World, w.heap = h2 -> (loadAt 24 s10).run P w = .ok s11 w) /\
 (∀ w : World, w.heap = h2 -> (loadAt 26 g3).run P w = .ok s8 w) /\
 pop P (Instr.build 138 #[(0, s8), (1, e1), (2, s13), (4, m2)]) fun s15 =>
 eop P (Instr.box 138 s15) h2 fun s16 h3 =>
 (∀ w : World, w.heap = h3 -> (loadAt 24 s10).run P w = .ok s11 w) /\
 (∀ w : World, w.heap = h3 -> (loadAt 26 g3).run P w = .ok s8 w) /\
 callM P 135 #[s16, (.int .i64 0)] h3 fun s18 h4 =>
 pop P (nilS s16) fun s20 =>
 pop P (Instr.fieldAt 138 s20 3) fun s21 =>
 rop P (loadAt 24 s21) h4 fun s22 =>
 K s22 h4
theorem e99 (g0 : Value) (e1 : Value) (m2 : Value) (h : Heap) (K : KQ) : wpA Tryz.prog 23 (anOf []) (bodyOf Tryz.f99) 1 (fun A h => resA Tryz.prog A h K [.tmp 6]) (fun _ _ _ => False) (fun A h => resA Tryz.prog A h K [.tmp 6]) (aargs [g0, e1, m2] 0) h = t99 Tryz.prog g0 e1 m2 h K := by kernel_rfl
theorem c99 (g0 : Value) (e1 : Value) (m2 : Value) (h : Heap) (K : KQ) (H : t99 Tryz.prog g0 e1 m2 h K) : callM Tryz.prog 99 #[g0, e1, m2] h K :=
  callM_of_wpA mixed (fn := Tryz.f99) Tryz.func99 (c := bodyOf Tryz.f99) rfl (of_decide_eq_true (by kernel_rfl)) (anOf []) 20 23 (by kernel_rfl) rfl [.tmp 6] (by kernel_rfl) (args := [g0, e1, m2]) (by rw [e99]; exact H)
def t100 (P : Program) (a0 : Value) (z1 : Value) (h : Heap) (K : KQ) : Prop :=
 pop P (lenS 29 3 a0) fun s8 =>
 ∃ (I1 : List Value -> Heap -> Prop) (μ_1 : List Value -> Heap -> Nat), I1 [(.int .i64 0)] h /\
 ∀ (junk1 : Nat -> Value) (s9 : Value) (h1 : Heap), I1 [s9] h1 ->
 pop P (binA .lss 3 s9 s8) fun s10 =>
 condM s10
 (pop P (Instr.indexAt 29 a0 s9) fun s12 =>
 rop P (loadAt 3 s12) h1 fun s13 =>
 pop P (Instr.indexAt 29 z1 s9) fun s17 =>
 rop P (loadAt 3 s17) h1 fun s18 =>
 pop P (binE .neq 3 (.tmp 14) (.tmp 18) s13 s18) fun s19 =>
 condM s19
 (pop P (Instr.indexAt 29 z1 s9) fun s23 =>
 rop P (loadAt 3 s23) h1 fun s24 =>
 pop P (binA .lss 3 s13 s24) fun s25 =>
 K s25 h1)
 (pop P (binA .add 3 s9 (.int .i64 1)) fun s26 =>
 I1 [s26] h1 /\ μ_1 [s26] h1 < μ_1 [s9] h1))
 (K (Value.bool false) h1)
theorem e100 (a0 : Value) (z1 : Value) (h : Heap) (K : KQ) : wpA Tryz.prog 27 (anOf [(26, [9])]) (bodyOf Tryz.f100) 1 (fun A h => resA Tryz.prog A h K [.tmp 4]) (fun _ _ _ => False) (fun A h => resA Tryz.prog A h K [.tmp 4]) (aargs [a0, z1] 0) h = t100 Tryz.prog a0 z1 h K := by kernel_rfl
theorem c100 (a0 : Value) (z1 : Value) (h : Heap) (K : KQ) (H : t100 Tryz.prog a0 z1 h K) : callM Tryz.prog 100 #[a0, z1] h K :=
  callM_of_wpA mixed (fn := Tryz.f100) Tryz.func100 (c := bodyOf Tryz.f100) rfl (of_decide_eq_true (by kernel_rfl)) (anOf [(26, [9])]) 25 27 (by kernel_rfl) rfl [.tmp 4] (by kernel_rfl) (args := [a0, z1]) (by rw [e100]; exact H)
def t101 (P : Program) (c0 : Value) (h : Heap) (K : KQ) : Prop :=
 eop P (Instr.alloc 26 true (.tuple #[])) h fun s2 h1 =>
 callM P 105 #[c0] h1 fun s11 h2 =>
 pop P (extract s11 0) fun s12 =>
 pop P (extract s11 1) fun s13 =>
 eop P (Instr.alloc 26 true (.tuple #[])) h2 fun g5 h3 =>
 uop P (Instr.storeAt 26 g5 s12) h3 fun q1 h4 =>
 rop P (loadAt 26 g5) h4 fun s14 =>
 callM P 98 #[s14, s13] h4 fun s16 h5 =>
 pop P (Op.unary .not s16) fun s17 =>
 condM s17
 (rop P (loadAt 26 g5) h5 fun s18 =>
 uop P (Instr.storeAt 26 s2 s18) h5 fun q2 h6 =>
 rop P (loadAt 26 s2) h6 fun r_1 =>
 K (.tuple #[r_1, s13, (Value.slice none 0 0)]) h6)
 (rop P (loadAt 26 g5) h5 fun s20 =>
 callM P 136 #[s20, s13] h5 fun s22 h7 =>
 guardM (asG s22 true) true (fun k_1 => k_1 c0 h7) h7 fun s24 h8 =>
 guardM (asG s22 true) true (fun k_2 => callM P 67 #[s24, (.int .i64 3)] h8 fun s25 h9 =>
 k_2 s25 h9) h8 fun s25b h10 =>
 guardM (asG s22 true) true (fun k_3 => pop P (Op.unary .not s25b) fun s26 =>
 k_3 s26 h10) h10 fun s26b h11 =>
 pop P (pickS s22 s26b (Value.bool false)) fun s27 =>
 condM s27
 (rop P (loadAt 26 g5) h11 fun s28 =>
 callM P 99 #[s28, s13, (.int .i64 20)] h11 fun s30 h12 =>
 rop P (loadAt 26 g5) h12 fun s31 =>
 pop P (lenS 24 3 s30) fun s36 =>
 callM P 52 #[c0, s36] h12 fun s37 h13 =>
 (∀ w : World, w.heap = h13 -> (loadAt 26 g5).run P w = .ok s31 w) /\
 pop P (Instr.indexAt 24 s30 s37) fun s38 =>
 rop P (loadAt 29 s38) h13 fun s39 =>
 callM P 79 #[s39] h13 fun s40 h14 =>
 (∀ w : World, w.heap = h14 -> (loadAt 26 g5).run P w = .ok s31 w) /\
 uop P (Instr.storeAt 26 s2 s31) h14 fun q3 h15 =>
 rop P (loadAt 26 s2) h15 fun r_2 =>
 K (.tuple #[r_2, s13, s40]) h15)
 (rop P (loadAt 26 g5) h11 fun s42 =>
 callM P 137 #[c0, s42] h11 fun s43 h16 =>
 eop P (Instr.alloc 48 true (.tuple #[])) h16 fun w8 h17 =>
 uop P (Instr.storeAt 48 w8 s43) h17 fun q4 h18 =>
 ∃ J1 : List Value -> Heap -> Prop, (callM P 67 #[c0, (.int .i64 8)] h18 fun s45 h19 =>
 pop P (Op.unary .not s45) fun s46 =>
 condM s46
 (pop P (Instr.fieldAt 48 w8 0) fun s47 =>
 rop P (loadAt 29 s47) h19 fun s48 =>
 pop P (Instr.indexAt 29 s48 s13) fun s50 =>
 uop P (Instr.storeAt 3 s50 (.int .i64 0)) h19 fun q5 h20 =>
 J1 [] h20)
 (J1 [] h19)) /\
 ∀ (junk1 : Nat -> Value) (h21 : Heap), J1 [] h21 ->
 rop P (loadAt 26 g5) h21 fun s51 =>
 pop P (Instr.fieldAt 48 w8 0) fun s53 =>
 rop P (loadAt 29 s53) h21 fun s54 =>
 uop P (Instr.storeAt 26 s2 s51) h21 fun q6 h22 =>
 (∀ w : World, w.heap = h22 -> (loadAt 29 s53).run P w = .ok s54 w) /\
 rop P (loadAt 26 s2) h22 fun r_3 =>
 K (.tuple #[r_3, s13, s54]) h22))
theorem e101 (c0 : Value) (h : Heap) (K : KQ) : wpA Tryz.prog 55 (anOf [(63, [])]) (bodyOf Tryz.f101) 1 (fun A h => resA Tryz.prog A h K [.cell 2 26, .tmp 3, .tmp 4]) (fun _ _ _ => False) (fun A h => resA Tryz.prog A h K [.cell 2 26, .tmp 3, .tmp 4]) (aargs [c0] 0) h = t101 Tryz.prog c0 h K := by kernel_rfl
theorem c101 (c0 : Value) (h : Heap) (K : KQ) (H : t101 Tryz.prog c0 h K) : callM Tryz.prog 101 #[c0] h K :=
  callM_of_wpA mixed (fn := Tryz.f101) Tryz.func101 (c := bodyOf Tryz.f101) rfl (of_decide_eq_true (by kernel_rfl)) (anOf [(63, [])]) 54 55 (by kernel_rfl) rfl [.cell 2 26, .tmp 3, .tmp 4] (by kernel_rfl) (args := [c0]) (by rw [e101]; exact H)
def t102 (P : Program) (g0 : Value) (e1 : Value) (r2 : Value) (h : Heap) (K : KQ) : Prop :=
 eop P (Instr.box 26 g0) h fun g3 h1 =>
 rop P (loadAt 26 g3) h1 fun s7 =>
 callM P 98 #[s7, e1] h1 fun s9 h2 =>
 guardM (asG s9 true) true (fun k_1 => rop P (loadAt 26 g3) h2 fun s11 =>
 k_1 s11 h2) h2 fun s11b h3 =>
 guardM (asG s9 true) true (fun k_2 => k_2 r2 h3) h3 fun s12 h4 =>
 guardM (asG s9 true) true (fun k_3 => k_3 e1 h4) h4 fun s13 h5 =>
 guardM (asG s9 true) true (fun k_4 => pop P (Instr.build 48 #[(0, s12), (1, s13)]) fun s14 =>
 k_4 s14 h5) h5 fun s14b h6 =>
 guardM (asG s9 true) true (fun k_5 => callM P 76 #[s11b, s14b] h6 fun s15 h7 =>
 k_5 s15 h7) h6 fun s15b h8 =>
 pop P (pickS s9 s15b (Value.bool false)) fun s16 =>
 guardM (asG s16 true) true (fun k_6 => k_6 r2 h8) h8 fun s18 h9 =>
 guardM (asG s16 true) true (fun k_7 => k_7 e1 h9) h9 fun s19 h10 =>
 guardM (asG s16 true) true (fun k_8 => pop P (Instr.indexAt 29 s18 s19) fun s20 =>
 k_8 s20 h10) h10 fun s20b h11 =>
 guardM (asG s16 true) true (fun k_9 => rop P (loadAt 3 s20b) h11 fun s21 =>
 k_9 s21 h11) h11 fun s21b h12 =>
 guardM (asG s16 true) true (fun k_10 => pop P (binE .eql 3 (.tmp 21) (.const (.int .i64 0)) s21b (.int .i64 0)) fun s22 =>
 k_10 s22 h12) h12 fun s22b h13 =>
 pop P (pickS s16 s22b (Value.bool false)) fun s23 =>
 K s23 h13
theorem e102 (g0 : Value) (e1 : Value) (r2 : Value) (h : Heap) (K : KQ) : wpA Tryz.prog 24 (anOf []) (bodyOf Tryz.f102) 1 (fun A h => resA Tryz.prog A h K [.tmp 6]) (fun _ _ _ => False) (fun A h => resA Tryz.prog A h K [.tmp 6]) (aargs [g0, e1, r2] 0) h = t102 Tryz.prog g0 e1 r2 h K := by kernel_rfl
theorem c102 (g0 : Value) (e1 : Value) (r2 : Value) (h : Heap) (K : KQ) (H : t102 Tryz.prog g0 e1 r2 h K) : callM Tryz.prog 102 #[g0, e1, r2] h K :=
  callM_of_wpA mixed (fn := Tryz.f102) Tryz.func102 (c := bodyOf Tryz.f102) rfl (of_decide_eq_true (by kernel_rfl)) (anOf []) 21 24 (by kernel_rfl) rfl [.tmp 6] (by kernel_rfl) (args := [g0, e1, r2]) (by rw [e102]; exact H)
def t103 (P : Program) (g0 : Value) (e1 : Value) (r2 : Value) (h : Heap) (K : KQ) : Prop :=
 eop P (Instr.box 26 g0) h fun g3 h1 =>
 pop P (Instr.fieldAt 26 g3 0) fun s8 =>
 rop P (loadAt 24 s8) h1 fun s9 =>
 pop P (lenS 24 3 s9) fun s10 =>
 ∃ (I1 : List Value -> Heap -> Prop) (μ_1 : List Value -> Heap -> Nat), I1 [(.int .i64 0)] h1 /\
 ∀ (junk1 : Nat -> Value) (s11 : Value) (h2 : Heap), I1 [s11] h2 ->
 pop P (binA .lss 3 s11 s10) fun s12 =>
 condM s12
 (rop P (loadAt 26 g3) h2 fun s14 =>
 callM P 138 #[s14, e1, r2, s11] h2 fun s18 h3 =>
 pop P (binA .lss 3 s18 (.int .i64 0)) fun s19 =>
 condM s19
 (K (Value.bool false) h3)
 (pop P (binA .add 3 s11 (.int .i64 1)) fun s20 =>
 I1 [s20] h3 /\ μ_1 [s20] h3 < μ_1 [s11] h2))
 (K (Value.bool true) h2)
theorem e103 (g0 : Value) (e1 : Value) (r2 : Value) (h : Heap) (K : KQ) : wpA Tryz.prog 21 (anOf [(26, [11])]) (bodyOf Tryz.f103) 1 (fun A h => resA Tryz.prog A h K [.tmp 6]) (fun _ _ _ => False) (fun A h => resA Tryz.prog A h K [.tmp 6]) (aargs [g0, e1, r2] 0) h = t103 Tryz.prog g0 e1 r2 h K := by kernel_rfl
theorem c103 (g0 : Value) (e1 : Value) (r2 : Value) (h : Heap) (K : KQ) (H : t103 Tryz.prog g0 e1 r2 h K) : callM Tryz.prog 103 #[g0, e1, r2] h K :=
  callM_of_wpA mixed (fn := Tryz.f103) Tryz.func103 (c := bodyOf Tryz.f103) rfl (of_decide_eq_true (by kernel_rfl)) (anOf [(26, [11])]) 18 21 (by kernel_rfl) rfl [.tmp 6] (by kernel_rfl) (args := [g0, e1, r2]) (by rw [e103]; exact H)
def t104 (P : Program) (n0 : Value) (v1 : Value) (z2 : Value) (h : Heap) (K : KQ) : Prop :=
 pop P (binA .geq 3 n0 v1) fun s9 =>
 guardM (asG s9 true) true (fun k_1 => k_1 n0 h) h fun s11 h1 =>
 guardM (asG s9 true) true (fun k_2 => k_2 z2 h1) h1 fun s12 h2 =>
 guardM (asG s9 true) true (fun k_3 => pop P (binA .leq 3 s11 s12) fun s13 =>
 k_3 s13 h2) h2 fun s13b h3 =>
 pop P (pickS s9 s13b (Value.bool false)) fun s14 =>
 K s14 h3
theorem e104 (n0 : Value) (v1 : Value) (z2 : Value) (h : Heap) (K : KQ) : wpA Tryz.prog 15 (anOf []) (bodyOf Tryz.f104) 1 (fun A h => resA Tryz.prog A h K [.tmp 6]) (fun _ _ _ => False) (fun A h => resA Tryz.prog A h K [.tmp 6]) (aargs [n0, v1, z2] 0) h = t104 Tryz.prog n0 v1 z2 h K := by kernel_rfl
theorem c104 (n0 : Value) (v1 : Value) (z2 : Value) (h : Heap) (K : KQ) (H : t104 Tryz.prog n0 v1 z2 h K) : callM Tryz.prog 104 #[n0, v1, z2] h K :=
  callM_of_wpA mixed (fn := Tryz.f104) Tryz.func104 (c := bodyOf Tryz.f104) rfl (of_decide_eq_true (by kernel_rfl)) (anOf []) 12 15 (by kernel_rfl) rfl [.tmp 6] (by kernel_rfl) (args := [n0, v1, z2]) (by rw [e104]; exact H)
def t105 (P : Program) (c0 : Value) (h : Heap) (K : KQ) : Prop :=
 eop P (Instr.alloc 26 true (.tuple #[])) h fun s2 h1 =>
 callM P 131 #[c0] h1 fun s6 h2 =>
 eop P (Instr.alloc 26 true (.tuple #[])) h2 fun g4 h3 =>
 uop P (Instr.storeAt 26 g4 s6) h3 fun q1 h4 =>
 ∃ J1 : List Value -> Heap -> Prop, (callM P 67 #[c0, (.int .i64 3)] h4 fun s8 h5 =>
 condM s8
 (callM P 139 #[c0] h5 fun s10 h6 =>
 uop P (Instr.storeAt 26 g4 s10) h6 fun q2 h7 =>
 J1 [] h7)
 (J1 [] h5)) /\
 ∀ (junk1 : Nat -> Value) (h8 : Heap), J1 [] h8 ->
 rop P (loadAt 26 g4) h8 fun s11 =>
 rop P (loadAt 26 g4) h8 fun s13 =>
 callM P 140 #[c0, s13] h8 fun s14 h9 =>
 (∀ w : World, w.heap = h9 -> (loadAt 26 g4).run P w = .ok s11 w) /\
 uop P (Instr.storeAt 26 s2 s11) h9 fun q3 h10 =>
 rop P (loadAt 26 s2) h10 fun r_1 =>
 K (.tuple #[r_1, s14]) h10
theorem e105 (c0 : Value) (h : Heap) (K : KQ) : wpA Tryz.prog 15 (anOf [(7, [])]) (bodyOf Tryz.f105) 1 (fun A h => resA Tryz.prog A h K [.cell 2 26, .tmp 3]) (fun _ _ _ => False) (fun A h => resA Tryz.prog A h K [.cell 2 26, .tmp 3]) (aargs [c0] 0) h = t105 Tryz.prog c0 h K := by kernel_rfl
theorem c105 (c0 : Value) (h : Heap) (K : KQ) (H : t105 Tryz.prog c0 h K) : callM Tryz.prog 105 #[c0] h K :=
  callM_of_wpA mixed (fn := Tryz.f105) Tryz.func105 (c := bodyOf Tryz.f105) rfl (of_decide_eq_true (by kernel_rfl)) (anOf [(7, [])]) 14 15 (by kernel_rfl) rfl [.cell 2 26, .tmp 3] (by kernel_rfl) (args := [c0]) (by rw [e105]; exact H)
def t106 (P : Program) (c0 : Value) (h : Heap) (K : KQ) : Prop :=
 ∃ J1 : List Value -> Heap -> Prop, (pop P (nilS c0) fun s5 =>
 pop P (Instr.fieldAt 74 s5 1) fun s6 =>
 rop P (loadAt 3 s6) h fun s7 =>
 pop P (nilS c0) fun s9 =>
 pop P (Instr.fieldAt 74 s9 0) fun s10 =>
 rop P (loadAt 22 s10) h fun s11 =>
 pop P (lenS 22 3 s11) fun s12 =>
 pop P (binA .lss 3 s7 s12) fun s13 =>
 condM s13
 (pop P (nilS c0) fun s15 =>
 pop P (Instr.fieldAt 74 s15 0) fun s16 =>
 rop P (loadAt 22 s16) h fun s17 =>
 pop P (nilS c0) fun s19 =>
 pop P (Instr.fieldAt 74 s19 1) fun s20 =>
 rop P (loadAt 3 s20) h fun s21 =>
 pop P (Instr.indexAt 22 s17 s21) fun s22 =>
 rop P (loadAt 5 s22) h fun s23 =>
 rop P (convert 5 3 s23) h fun s24 =>
 J1 [s24] h)
 (J1 [(.int .i64 0)] h)) /\
 ∀ (junk1 : Nat -> Value) (z3 : Value) (h1 : Heap), J1 [z3] h1 ->
 pop P (nilS c0) fun s26 =>
 pop P (Instr.fieldAt 74 s26 1) fun s27 =>
 rop P (loadAt 3 s27) h1 fun s28 =>
 pop P (binA .add 3 s28 (.int .i64 1)) fun s29 =>
 pop P (nilS c0) fun s30 =>
 pop P (Instr.fieldAt 74 s30 1) fun s31 =>
 uop P (Instr.storeAt 3 s31 s29) h1 fun q1 h2 =>
 pop P (nilS c0) fun s34 =>
 pop P (Instr.fieldAt 74 s34 2) fun s35 =>
 rop P (loadAt 72 s35) h2 fun s36 =>
 pop P (binA .mul 72 s36 (Value.int IntKind.u64 6364136223846793005)) fun s37 =>
 rop P (convert 3 72 z3) h2 fun s39 =>
 pop P (binA .add 72 s37 s39) fun s40 =>
 pop P (binA .add 72 s40 (Value.int IntKind.u64 1442695040888963407)) fun s41 =>
 pop P (nilS c0) fun s42 =>
 pop P (Instr.fieldAt 74 s42 2) fun s43 =>
 uop P (Instr.storeAt 72 s43 s41) h2 fun q2 h3 =>
 pop P (nilS c0) fun s45 =>
 pop P (Instr.fieldAt 74 s45 1) fun s46 =>
 rop P (loadAt 3 s46) h3 fun s47 =>
 pop P (nilS c0) fun s49 =>
 pop P (Instr.fieldAt 74 s49 0) fun s50 =>
 rop P (loadAt 22 s50) h3 fun s51 =>
 pop P (lenS 22 3 s51) fun s52 =>
 pop P (binA .leq 3 s47 s52) fun s53 =>
 condM s53
 (K z3 h3)
 (pop P (nilS c0) fun s56 =>
 pop P (Instr.fieldAt 74 s56 2) fun s57 =>
 rop P (loadAt 72 s57) h3 fun s58 =>
 pop P (binA .shr 72 s58 (Value.int IntKind.u64 40)) fun s59 =>
 pop P (binA .and 72 s59 (Value.int IntKind.u64 255)) fun s60 =>
 rop P (convert 72 3 s60) h3 fun s61 =>
 K s61 h3)
theorem e106 (c0 : Value) (h : Heap) (K : KQ) : wpA Tryz.prog 62 (anOf [(7, [3])]) (bodyOf Tryz.f106) 1 (fun A h => resA Tryz.prog A h K [.tmp 2]) (fun _ _ _ => False) (fun A h => resA Tryz.prog A h K [.tmp 2]) (aargs [c0] 0) h = t106 Tryz.prog c0 h K := by kernel_rfl
theorem c106 (c0 : Value) (h : Heap) (K : KQ) (H : t106 Tryz.prog c0 h K) : callM Tryz.prog 106 #[c0] h K :=
  callM_of_wpA mixed (fn := Tryz.f106) Tryz.func106 (c := bodyOf Tryz.f106) rfl (of_decide_eq_true (by kernel_rfl)) (anOf [(7, [3])]) 61 62 (by kernel_rfl) rfl [.tmp 2] (by kernel_rfl) (args := [c0]) (by rw [e106]; exact H)
def t107 (P : Program) (y0 : Value) (f1 : Value) (h : Heap) (K : KQ) : Prop :=
 callM P 141 #[y0, f1] h fun s7 h1 =>
 pop P (binA .geq 3 s7 (.int .i64 0)) fun s8 =>
 K s8 h1
theorem e107 (y0 : Value) (f1 : Value) (h : Heap) (K : KQ) : wpA Tryz.prog 9 (anOf []) (bodyOf Tryz.f107) 1 (fun A h => resA Tryz.prog A h K [.tmp 4]) (fun _ _ _ => False) (fun A h => resA Tryz.prog A h K [.tmp 4]) (aargs [y0, f1] 0) h = t107 Tryz.prog y0 f1 h K := by kernel_rfl
theorem c107 (y0 : Value) (f1 : Value) (h : Heap) (K : KQ) (H : t107 Tryz.prog y0 f1 h K) : callM Tryz.prog 107 #[y0, f1] h K :=
  callM_of_wpA mixed (fn := Tryz.f107) Tryz.func107 (c := bodyOf Tryz.f107) rfl (of_decide_eq_true (by kernel_rfl)) (anOf []) 7 9 (by kernel_rfl) rfl [.tmp 4] (by kernel_rfl) (args := [y0, f1]) (by rw [e107]; exact H)
def t112 (P : Program) (l0 : Value) (n1 : Value) (h : Heap) (K : KQ) : Prop :=
 pop P (lenS 29 3 l0) fun s8 =>
 ∃ (I1 : List Value -> Heap -> Prop) (μ_1 : List Value -> Heap -> Nat), I1 [(.int .i64 0)] h /\
 ∀ (junk1 : Nat -> Value) (s9 : Value) (h1 : Heap), I1 [s9] h1 ->
 pop P (binA .lss 3 s9 s8) fun s10 =>
 condM s10
 (pop P (Instr.indexAt 29 l0 s9) fun s11 =>
 rop P (loadAt 3 s11) h1 fun s12 =>
 pop P (binE .eql 3 (.tmp 13) (.tmp 14) s12 n1) fun s15 =>
 condM s15
 (K (Value.bool true) h1)
 (pop P (binA .add 3 s9 (.int .i64 1)) fun s16 =>
 I1 [s16] h1 /\ μ_1 [s16] h1 < μ_1 [s9] h1))
 (K (Value.bool false) h1)
theorem e112 (l0 : Value) (n1 : Value) (h : Heap) (K : KQ) : wpA Tryz.prog 17 (anOf [(26, [9])]) (bodyOf Tryz.f112) 1 (fun A h => resA Tryz.prog A h K [.tmp 4]) (fun _ _ _ => False) (fun A h => resA Tryz.prog A h K [.tmp 4]) (aargs [l0, n1] 0) h = t112 Tryz.prog l0 n1 h K := by kernel_rfl
theorem c112 (l0 : Value) (n1 : Value) (h : Heap) (K : KQ) (H : t112 Tryz.prog l0 n1 h K) : callM Tryz.prog 112 #[l0, n1] h K :=
  callM_of_wpA mixed (fn := Tryz.f112) Tryz.func112 (c := bodyOf Tryz.f112) rfl (of_decide_eq_true (by kernel_rfl)) (anOf [(26, [9])]) 15 17 (by kernel_rfl) rfl [.tmp 4] (by kernel_rfl) (args := [l0, n1]) (by rw [e112]; exact H)
def t113 (P : Program) (g0 : Value) (r1 : Value) (h : Heap) (K : KQ) : Prop :=
 eop P (Instr.box 26 g0) h fun g2 h1 =>
 rop P (loadAt 26 g2) h1 fun s5 =>
 pop P (Instr.build 48 #[(0, r1), (1, (.int .i64 0))]) fun s7 =>
 callM P 74 #[s5, s7] h1 fun s8 h2 =>
 K s8 h2
theorem e113 (g0 : Value) (r1 : Value) (h : Heap) (K : KQ) : wpA Tryz.prog 9 (anOf []) (bodyOf Tryz.f113) 1 (fun A h => resA Tryz.prog A h K [.tmp 4]) (fun _ _ _ => False) (fun A h => resA Tryz.prog A h K [.tmp 4]) (aargs [g0, r1] 0) h = t113 Tryz.prog g0 r1 h K := by kernel_rfl
theorem c113 (g0 : Value) (r1 : Value) (h : Heap) (K : KQ) (H : t113 Tryz.prog g0 r1 h K) : callM Tryz.prog 113 #[g0, r1] h K :=
  callM_of_wpA mixed (fn := Tryz.f113) Tryz.func113 (c := bodyOf Tryz.f113) rfl (of_decide_eq_true (by kernel_rfl)) (anOf []) 7 9 (by kernel_rfl) rfl [.tmp 4] (by kernel_rfl) (args := [g0, r1]) (by rw [e113]; exact H)
def t114 (P : Program) (g0 : Value) (e1 : Value) (r2 : Value) (h : Heap) (K : KQ) : Prop :=
 eop P (Instr.box 26 g0) h fun g3 h1 =>
 eop P (buildSlice 29 0 #[]) h1 fun s12 h2 =>
 pop P (Instr.fieldAt 26 g3 0) fun s13 =>
 rop P (loadAt 24 s13) h2 fun s14 =>
 pop P (lenS 24 3 s14) fun s15 =>
 ∃ (I1 : List Value -> Heap -> Prop) (μ_1 : List Value -> Heap -> Nat), I1 [s12, (.int .i64 0)] h2 /\
 ∀ (junk1 : Nat -> Value) (o8 : Value) (s16 : Value) (h3 : Heap), I1 [o8, s16] h3 ->
 pop P (binA .lss 3 s16 s15) fun s17 =>
 condM s17
 (∃ (I2 : List Value -> Heap -> Prop) (μ_2 : List Value -> Heap -> Nat), I2 [(.int .i64 0), s16] h3 /\
 ∀ (junk2 : Nat -> Value) (m10 : Value) (a11 : Value) (h4 : Heap), I2 [m10, a11] h4 ->
 pop P (binE .neq 3 (.tmp 20) (.tmp 21) a11 e1) fun s22 =>
 condM s22
 (rop P (loadAt 26 g3) h4 fun s25 =>
 callM P 126 #[s25, r2, a11] h4 fun s28 h5 =>
 pop P (binA .lss 3 s28 (.int .i64 0)) fun s30 =>
 guardM (asG s30 false) false (fun k_1 => k_1 m10 h5) h5 fun s32 h6 =>
 guardM (asG s30 false) false (fun k_2 => pop P (Instr.fieldAt 26 g3 0) fun s33 =>
 k_2 s33 h6) h6 fun s33b h7 =>
 guardM (asG s30 false) false (fun k_3 => rop P (loadAt 24 s33b) h7 fun s34 =>
 k_3 s34 h7) h7 fun s34b h8 =>
 guardM (asG s30 false) false (fun k_4 => pop P (lenS 24 3 s34b) fun s35 =>
 k_4 s35 h8) h8 fun s35b h9 =>
 guardM (asG s30 false) false (fun k_5 => pop P (binA .gtr 3 s32 s35b) fun s36 =>
 k_5 s36 h9) h9 fun s36b h10 =>
 pop P (pickS s30 (Value.bool true) s36b) fun s37 =>
 condM s37
 (K (.tuple #[(Value.slice none 0 0), (Value.bool false)]) h10)
 (pop P (binA .add 3 m10 (.int .i64 1)) fun s24 =>
 I2 [s24, s28] h10 /\ μ_2 [s24, s28] h10 < μ_2 [m10, a11] h4))
 (eop P (buildSlice 29 1 #[(0, m10)]) h4 fun s40 h11 =>
 eop P (appS 29 29 29 o8 s40) h11 fun s41 h12 =>
 pop P (binA .add 3 s16 (.int .i64 1)) fun s42 =>
 I1 [s41, s42] h12 /\ μ_1 [s41, s42] h12 < μ_1 [o8, s16] h3))
 (K (.tuple #[o8, (Value.bool true)]) h3)
theorem e114 (g0 : Value) (e1 : Value) (r2 : Value) (h : Heap) (K : KQ) : wpA Tryz.prog 44 (anOf [(58, [8, 16]), (59802, [10, 11])]) (bodyOf Tryz.f114) 1 (fun A h => resA Tryz.prog A h K [.tmp 6, .tmp 7]) (fun _ _ _ => False) (fun A h => resA Tryz.prog A h K [.tmp 6, .tmp 7]) (aargs [g0, e1, r2] 0) h = t114 Tryz.prog g0 e1 r2 h K := by kernel_rfl
theorem c114 (g0 : Value) (e1 : Value) (r2 : Value) (h : Heap) (K : KQ) (H : t114 Tryz.prog g0 e1 r2 h K) : callM Tryz.prog 114 #[g0, e1, r2] h K :=
  callM_of_wpA mixed (fn := Tryz.f114) Tryz.func114 (c := bodyOf Tryz.f114) rfl (of_decide_eq_true (by kernel_rfl)) (anOf [(58, [8, 16]), (59802, [10, 11])]) 41 44 (by kernel_rfl) rfl [.tmp 6, .tmp 7] (by kernel_rfl) (args := [g0, e1, r2]) (by rw [e114]; exact H)
def t117 (P : Program) (q0 : Value) (s1 : Value) (h : Heap) (K : KQ) : Prop :=
 rop P (loadAt 3 s1) h fun s5 =>
 pop P (binA .sub 3 s5 (.int .i64 1)) fun s6 =>
 callM P 84 #[q0, (.int .i64 0), s6] h fun s7 h1 =>
 pop P (Op.unary .not s7) fun s8 =>
 K s8 h1
theorem e117 (q0 : Value) (s1 : Value) (h : Heap) (K : KQ) : wpA Tryz.prog 9 (anOf []) (bodyOf Tryz.f117) 1 (fun A h => resA Tryz.prog A h K [.tmp 3]) (fun _ _ _ => False) (fun A h => resA Tryz.prog A h K [.tmp 3]) (aargs [q0, s1] 0) h = t117 Tryz.prog q0 s1 h K := by kernel_rfl
theorem c117 (q0 : Value) (s1 : Value) (h : Heap) (K : KQ) (H : t117 Tryz.prog q0 s1 h K) : callM Tryz.prog 117 #[q0, s1] h K :=
  callM_of_wpA mixed (fn := Tryz.f117) Tryz.func117 (c := bodyOf Tryz.f117) rfl (of_decide_eq_true (by kernel_rfl)) (anOf []) 7 9 (by kernel_rfl) rfl [.tmp 3] (by kernel_rfl) (args := [q0, s1]) (by rw [e117]; exact H)
def t122 (P : Program) (c0 : Value) (h : Heap) (K : KQ) : Prop :=
 eop P (Instr.alloc 26 true (.tuple #[])) h fun s2 h1 =>
 eop P (Instr.alloc 48 true (.tuple #[])) h1 fun s3 h2 =>
 callM P 67 #[c0, (.int .i64 3)] h2 fun s10 h3 =>
 condM s10
 (callM P 148 #[c0] h3 fun s12 h4 =>
 pop P (extract s12 0) fun s13 =>
 pop P (extract s12 1) fun s14 =>
 uop P (Instr.storeAt 26 s2 s13) h4 fun q1 h5 =>
 uop P (Instr.storeAt 48 s3 s14) h5 fun q2 h6 =>
 rop P (loadAt 26 s2) h6 fun r_1 =>
 rop P (loadAt 48 s3) h6 fun r_2 =>
 K (.tuple #[r_1, r_2]) h6)
 (callM P 101 #[c0] h3 fun s17 h7 =>
 pop P (extract s17 0) fun s18 =>
 pop P (extract s17 1) fun s19 =>
 pop P (extract s17 2) fun s20 =>
 eop P (Instr.alloc 26 true (.tuple #[])) h7 fun g4 h8 =>
 uop P (Instr.storeAt 26 g4 s18) h8 fun q3 h9 =>
 rop P (loadAt 26 g4) h9 fun s21 =>
 callM P 102 #[s21, s19, s20] h9 fun s24 h10 =>
 pop P (Op.unary .not s24) fun s25 =>
 condM s25
 (rop P (loadAt 26 g4) h10 fun s26 =>
 pop P (Instr.build 48 #[(0, s20), (1, s19)]) fun s29 =>
 uop P (Instr.storeAt 26 s2 s26) h10 fun q4 h11 =>
 uop P (Instr.storeAt 48 s3 s29) h11 fun q5 h12 =>
 rop P (loadAt 26 s2) h12 fun r_3 =>
 rop P (loadAt 48 s3) h12 fun r_4 =>
 K (.tuple #[r_3, r_4]) h12)
 (pop P (Instr.build 48 #[(0, s20), (1, s19)]) fun s32 =>
 eop P (Instr.alloc 48 true (.tuple #[])) h10 fun w7 h13 =>
 uop P (Instr.storeAt 48 w7 s32) h13 fun q6 h14 =>
 ∃ J1 : List Value -> Heap -> Prop, (pop P (Instr.fieldAt 26 g4 0) fun s33 =>
 rop P (loadAt 24 s33) h14 fun s34 =>
 pop P (Instr.indexAt 24 s34 s19) fun s36 =>
 rop P (loadAt 29 s36) h14 fun s37 =>
 pop P (lenS 29 3 s37) fun s38 =>
 pop P (binA .gtr 3 s38 (.int .i64 0)) fun s40 =>
 condM s40
 (pop P (Instr.fieldAt 48 w7 0) fun s41 =>
 rop P (loadAt 29 s41) h14 fun s42 =>
 callM P 52 #[c0, s38] h14 fun s46 h15 =>
 (∀ w : World, w.heap = h15 -> (loadAt 29 s41).run P w = .ok s42 w) /\
 pop P (Instr.indexAt 29 s42 s19) fun s47 =>
 uop P (Instr.storeAt 3 s47 s46) h15 fun q7 h16 =>
 J1 [] h16)
 (J1 [] h14)) /\
 ∀ (junk1 : Nat -> Value) (h17 : Heap), J1 [] h17 ->
 rop P (loadAt 26 g4) h17 fun s48 =>
 rop P (loadAt 48 w7) h17 fun s49 =>
 uop P (Instr.storeAt 26 s2 s48) h17 fun q8 h18 =>
 (∀ w : World, w.heap = h18 -> (loadAt 48 w7).run P w = .ok s49 w) /\
 uop P (Instr.storeAt 48 s3 s49) h18 fun q9 h19 =>
 rop P (loadAt 26 s2) h19 fun r_5 =>
 rop P (loadAt 48 s3) h19 fun r_6 =>
 K (.tuple #[r_5, r_6]) h19))
theorem e122 (c0 : Value) (h : Heap) (K : KQ) : wpA Tryz.prog 50 (anOf [(63, [])]) (bodyOf Tryz.f122) 1 (fun A h => resA Tryz.prog A h K [.cell 2 26, .cell 3 48]) (fun _ _ _ => False) (fun A h => resA Tryz.prog A h K [.cell 2 26, .cell 3 48]) (aargs [c0] 0) h = t122 Tryz.prog c0 h K := by kernel_rfl
theorem c122 (c0 : Value) (h : Heap) (K : KQ) (H : t122 Tryz.prog c0 h K) : callM Tryz.prog 122 #[c0] h K :=
  callM_of_wpA mixed (fn := Tryz.f122) Tryz.func122 (c := bodyOf Tryz.f122) rfl (of_decide_eq_true (by kernel_rfl)) (anOf [(63, [])]) 49 50 (by kernel_rfl) rfl [.cell 2 26, .cell 3 48] (by kernel_rfl) (args := [c0]) (by rw [e122]; exact H)
def t123 (P : Program) (y0 : Value) (j1 : Value) (h : Heap) (K : KQ) : Prop :=
 callM P 127 #[y0, j1] h fun s7 h1 =>
 pop P (binA .geq 3 s7 (.int .i64 0)) fun s8 =>
 K s8 h1
theorem e123 (y0 : Value) (j1 : Value) (h : Heap) (K : KQ) : wpA Tryz.prog 9 (anOf []) (bodyOf Tryz.f123) 1 (fun A h => resA Tryz.prog A h K [.tmp 4]) (fun _ _ _ => False) (fun A h => resA Tryz.prog A h K [.tmp 4]) (aargs [y0, j1] 0) h = t123 Tryz.prog y0 j1 h K := by kernel_rfl
theorem c123 (y0 : Value) (j1 : Value) (h : Heap) (K : KQ) (H : t123 Tryz.prog y0 j1 h K) : callM Tryz.prog 123 #[y0, j1] h K :=
  callM_of_wpA mixed (fn := Tryz.f123) Tryz.func123 (c := bodyOf Tryz.f123) rfl (of_decide_eq_true (by kernel_rfl)) (anOf []) 7 9 (by kernel_rfl) rfl [.tmp 4] (by kernel_rfl) (args := [y0, j1]) (by rw [e123]; exact H)
def t124 (P : Program) (a0 : Value) (z1 : Value) (h : Heap) (K : KQ) : Prop :=
 pop P (binA .gtr 3 a0 z1) fun s7 =>
 condM s7
 (K a0 h)
 (K z1 h)
theorem e124 (a0 : Value) (z1 : Value) (h : Heap) (K : KQ) : wpA Tryz.prog 10 (anOf []) (bodyOf Tryz.f124) 1 (fun A h => resA Tryz.prog A h K [.tmp 4]) (fun _ _ _ => False) (fun A h => resA Tryz.prog A h K [.tmp 4]) (aargs [a0, z1] 0) h = t124 Tryz.prog a0 z1 h K := by kernel_rfl
theorem c124 (a0 : Value) (z1 : Value) (h : Heap) (K : KQ) (H : t124 Tryz.prog a0 z1 h K) : callM Tryz.prog 124 #[a0, z1] h K :=
  callM_of_wpA mixed (fn := Tryz.f124) Tryz.func124 (c := bodyOf Tryz.f124) rfl (of_decide_eq_true (by kernel_rfl)) (anOf []) 8 10 (by kernel_rfl) rfl [.tmp 4] (by kernel_rfl) (args := [a0, z1]) (by rw [e124]; exact H)
def t125 (P : Program) (g0 : Value) (r1 : Value) (p2 : Value) (h : Heap) (K : KQ) : Prop :=
 eop P (Instr.box 26 g0) h fun g3 h1 =>
 ∃ (I1 : List Value -> Heap -> Prop) (μ_1 : List Value -> Heap -> Nat), I1 [p2, (.int .i64 0)] h1 /\
 ∀ (junk1 : Nat -> Value) (p2a : Value) (n8 : Value) (h2 : Heap), I1 [p2a, n8] h2 ->
 pop P (Instr.fieldAt 26 g3 0) fun s12 =>
 rop P (loadAt 24 s12) h2 fun s13 =>
 pop P (lenS 24 3 s13) fun s14 =>
 pop P (binA .lss 3 n8 s14) fun s15 =>
 condM s15
 (rop P (loadAt 26 g3) h2 fun s18 =>
 callM P 128 #[s18, r1, p2a] h2 fun s21 h3 =>
 pop P (binA .lss 3 s21 (.int .i64 0)) fun s23 =>
 condM s23
 (K (.tuple #[(Value.slice none 0 0), (Value.bool false)]) h3)
 (pop P (binA .add 3 n8 (.int .i64 1)) fun s17 =>
 I1 [s21, s17] h3 /\ μ_1 [s21, s17] h3 < μ_1 [p2a, n8] h2))
 (eop P (buildSlice 29 1 #[(0, p2a)]) h2 fun s25 h4 =>
 rop P (loadAt 26 g3) h4 fun s26 =>
 callM P 128 #[s26, r1, p2a] h4 fun s29 h5 =>
 ∃ (I2 : List Value -> Heap -> Prop) (μ_2 : List Value -> Heap -> Nat), I2 [s25, s29] h5 /\
 ∀ (junk2 : Nat -> Value) (o9 : Value) (z10 : Value) (h6 : Heap), I2 [o9, z10] h6 ->
 pop P (binE .neq 3 (.tmp 30) (.tmp 31) z10 p2a) fun s32 =>
 condM s32
 (eop P (buildSlice 29 1 #[(0, z10)]) h6 fun s39 h7 =>
 eop P (appS 29 29 29 o9 s39) h7 fun s40 h8 =>
 rop P (loadAt 26 g3) h8 fun s33 =>
 callM P 128 #[s33, r1, z10] h8 fun s36 h9 =>
 I2 [s40, s36] h9 /\ μ_2 [s40, s36] h9 < μ_2 [o9, z10] h6)
 (K (.tuple #[o9, (Value.bool true)]) h6))
theorem e125 (g0 : Value) (r1 : Value) (p2 : Value) (h : Heap) (K : KQ) : wpA Tryz.prog 42 (anOf [(26, [2, 8]), (122, [9, 10])]) (bodyOf Tryz.f125) 1 (fun A h => resA Tryz.prog A h K [.tmp 6, .tmp 7]) (fun _ _ _ => False) (fun A h => resA Tryz.prog A h K [.tmp 6, .tmp 7]) (aargs [g0, r1, p2] 0) h = t125 Tryz.prog g0 r1 p2 h K := by kernel_rfl
theorem c125 (g0 : Value) (r1 : Value) (p2 : Value) (h : Heap) (K : KQ) (H : t125 Tryz.prog g0 r1 p2 h K) : callM Tryz.prog 125 #[g0, r1, p2] h K :=
  callM_of_wpA mixed (fn := Tryz.f125) Tryz.func125 (c := bodyOf Tryz.f125) rfl (of_decide_eq_true (by kernel_rfl)) (anOf [(26, [2, 8]), (122, [9, 10])]) 39 42 (by kernel_rfl) rfl [.tmp 6, .tmp 7] (by kernel_rfl) (args := [g0, r1, p2]) (by rw [e125]; exact H)
def t126 (P : Program) (g0 : Value) (r1 : Value) (p2 : Value) (h : Heap) (K : KQ) : Prop :=
 eop P (Instr.box 26 g0) h fun g3 h1 =>
 pop P (Instr.fieldAt 26 g3 0) fun s7 =>
 rop P (loadAt 24 s7) h1 fun s8 =>
 pop P (Instr.indexAt 24 s8 p2) fun s10 =>
 rop P (loadAt 29 s10) h1 fun s11 =>
 pop P (lenS 29 3 s11) fun s12 =>
 pop P (binE .eql 3 (.tmp 12) (.const (.int .i64 0)) s12 (.int .i64 0)) fun s13 =>
 condM s13
 (K (.int .i64 (-1)) h1)
 (pop P (Instr.fieldAt 26 g3 0) fun s14 =>
 rop P (loadAt 24 s14) h1 fun s15 =>
 pop P (Instr.indexAt 24 s15 p2) fun s17 =>
 rop P (loadAt 29 s17) h1 fun s18 =>
 pop P (Instr.indexAt 29 r1 p2) fun s21 =>
 rop P (loadAt 3 s21) h1 fun s22 =>
 pop P (Instr.indexAt 29 s18 s22) fun s23 =>
 rop P (loadAt 3 s23) h1 fun s24 =>
 K s24 h1)
theorem e126 (g0 : Value) (r1 : Value) (p2 : Value) (h : Heap) (K : KQ) : wpA Tryz.prog 25 (anOf []) (bodyOf Tryz.f126) 1 (fun A h => resA Tryz.prog A h K [.tmp 6]) (fun _ _ _ => False) (fun A h => resA Tryz.prog A h K [.tmp 6]) (aargs [g0, r1, p2] 0) h = t126 Tryz.prog g0 r1 p2 h K := by kernel_rfl
theorem c126 (g0 : Value) (r1 : Value) (p2 : Value) (h : Heap) (K : KQ) (H : t126 Tryz.prog g0 r1 p2 h K) : callM Tryz.prog 126 #[g0, r1, p2] h K :=
  callM_of_wpA mixed (fn := Tryz.f126) Tryz.func126 (c := bodyOf Tryz.f126) rfl (of_decide_eq_true (by kernel_rfl)) (anOf []) 22 25 (by kernel_rfl) rfl [.tmp 6] (by kernel_rfl) (args := [g0, r1, p2]) (by rw [e126]; exact H)
def t127 (P : Program) (y0 : Value) (j1 : Value) (h : Heap) (K : KQ) : Prop :=
 pop P (lenS 29 3 y0) fun s7 =>
 ∃ (I1 : List Value -> Heap -> Prop) (μ_1 : List Value -> Heap -> Nat), I1 [(.int .i64 0)] h /\
 ∀ (junk1 : Nat -> Value) (s8 : Value) (h1 : Heap), I1 [s8] h1 ->
 pop P (binA .lss 3 s8 s7) fun s9 =>
 condM s9
 (pop P (Instr.indexAt 29 y0 s8) fun s14 =>
 rop P (loadAt 3 s14) h1 fun s15 =>
 pop P (binE .eql 3 (.tmp 11) (.tmp 15) j1 s15) fun s16 =>
 condM s16
 (K s8 h1)
 (pop P (binA .add 3 s8 (.int .i64 1)) fun s18 =>
 I1 [s18] h1 /\ μ_1 [s18] h1 < μ_1 [s8] h1))
 (K (.int .i64 (-1)) h1)
theorem e127 (y0 : Value) (j1 : Value) (h : Heap) (K : KQ) : wpA Tryz.prog 19 (anOf [(26, [8])]) (bodyOf Tryz.f127) 1 (fun A h => resA Tryz.prog A h K [.tmp 4]) (fun _ _ _ => False) (fun A h => resA Tryz.prog A h K [.tmp 4]) (aargs [y0, j1] 0) h = t127 Tryz.prog y0 j1 h K := by kernel_rfl
theorem c127 (y0 : Value) (j1 : Value) (h : Heap) (K : KQ) (H : t127 Tryz.prog y0 j1 h K) : callM Tryz.prog 127 #[y0, j1] h K :=
  callM_of_wpA mixed (fn := Tryz.f127) Tryz.func127 (c := bodyOf Tryz.f127) rfl (of_decide_eq_true (by kernel_rfl)) (anOf [(26, [8])]) 17 19 (by kernel_rfl) rfl [.tmp 4] (by kernel_rfl) (args := [y0, j1]) (by rw [e127]; exact H)
def t128 (P : Program) (g0 : Value) (r1 : Value) (p2 : Value) (h : Heap) (K : KQ) : Prop :=
 eop P (Instr.box 26 g0) h fun g3 h1 =>
 pop P (Instr.fieldAt 26 g3 0) fun s7 =>
 rop P (loadAt 24 s7) h1 fun s8 =>
 pop P (Instr.indexAt 24 s8 p2) fun s10 =>
 rop P (loadAt 29 s10) h1 fun s11 =>
 pop P (lenS 29 3 s11) fun s12 =>
 pop P (binE .eql 3 (.tmp 12) (.const (.int .i64 0)) s12 (.int .i64 0)) fun s13 =>
 condM s13
 (K (.int .i64 (-1)) h1)
 (pop P (Instr.fieldAt 26 g3 0) fun s14 =>
 rop P (loadAt 24 s14) h1 fun s15 =>
 pop P (Instr.indexAt 24 s15 p2) fun s17 =>
 rop P (loadAt 29 s17) h1 fun s18 =>
 pop P (Instr.indexAt 29 r1 p2) fun s21 =>
 rop P (loadAt 3 s21) h1 fun s22 =>
 pop P (Instr.indexAt 29 s18 s22) fun s23 =>
 rop P (loadAt 3 s23) h1 fun s24 =>
 K s24 h1)
theorem e128 (g0 : Value) (r1 : Value) (p2 : Value) (h : Heap) (K : KQ) : wpA Tryz.prog 25 (anOf []) (bodyOf Tryz.f128) 1 (fun A h => resA Tryz.prog A h K [.tmp 6]) (fun _ _ _ => False) (fun A h => resA Tryz.prog A h K [.tmp 6]) (aargs [g0, r1, p2] 0) h = t128 Tryz.prog g0 r1 p2 h K := by kernel_rfl
theorem c128 (g0 : Value) (r1 : Value) (p2 : Value) (h : Heap) (K : KQ) (H : t128 Tryz.prog g0 r1 p2 h K) : callM Tryz.prog 128 #[g0, r1, p2] h K :=
  callM_of_wpA mixed (fn := Tryz.f128) Tryz.func128 (c := bodyOf Tryz.f128) rfl (of_decide_eq_true (by kernel_rfl)) (anOf []) 22 25 (by kernel_rfl) rfl [.tmp 6] (by kernel_rfl) (args := [g0, r1, p2]) (by rw [e128]; exact H)
def t129 (P : Program) (g0 : Value) (r1 : Value) (p2 : Value) (h : Heap) (K : KQ) : Prop :=
 eop P (Instr.box 26 g0) h fun g3 h1 =>
 eop P (buildSlice 29 1 #[(0, p2)]) h1 fun s10 h2 =>
 rop P (loadAt 26 g3) h2 fun s11 =>
 callM P 128 #[s11, r1, p2] h2 fun s14 h3 =>
 ∃ (I1 : List Value -> Heap -> Prop) (μ_1 : List Value -> Heap -> Nat), I1 [s10, s14] h3 /\
 ∀ (junk1 : Nat -> Value) (o7 : Value) (z8 : Value) (h4 : Heap), I1 [o7, z8] h4 ->
 pop P (binE .neq 3 (.tmp 15) (.tmp 16) z8 p2) fun s17 =>
 condM s17
 (eop P (buildSlice 29 1 #[(0, z8)]) h4 fun s24 h5 =>
 eop P (appS 29 29 29 o7 s24) h5 fun s25 h6 =>
 rop P (loadAt 26 g3) h6 fun s18 =>
 callM P 128 #[s18, r1, z8] h6 fun s21 h7 =>
 I1 [s25, s21] h7 /\ μ_1 [s25, s21] h7 < μ_1 [o7, z8] h4)
 (K o7 h4)
theorem e129 (g0 : Value) (r1 : Value) (p2 : Value) (h : Heap) (K : KQ) : wpA Tryz.prog 27 (anOf [(58, [7, 8])]) (bodyOf Tryz.f129) 1 (fun A h => resA Tryz.prog A h K [.tmp 6]) (fun _ _ _ => False) (fun A h => resA Tryz.prog A h K [.tmp 6]) (aargs [g0, r1, p2] 0) h = t129 Tryz.prog g0 r1 p2 h K := by kernel_rfl
theorem c129 (g0 : Value) (r1 : Value) (p2 : Value) (h : Heap) (K : KQ) (H : t129 Tryz.prog g0 r1 p2 h K) : callM Tryz.prog 129 #[g0, r1, p2] h K :=
  callM_of_wpA mixed (fn := Tryz.f129) Tryz.func129 (c := bodyOf Tryz.f129) rfl (of_decide_eq_true (by kernel_rfl)) (anOf [(58, [7, 8])]) 24 27 (by kernel_rfl) rfl [.tmp 6] (by kernel_rfl) (args := [g0, r1, p2]) (by rw [e129]; exact H)
def t130 (P : Program) (g0 : Value) (w1 : Value) (h : Heap) (K : KQ) : Prop :=
 eop P (Instr.box 26 g0) h fun g2 h1 =>
 pop P (Instr.fieldAt 26 g2 0) fun s6 =>
 rop P (loadAt 24 s6) h1 fun s7 =>
 pop P (nilS w1) fun s9 =>
 pop P (Instr.fieldAt 48 s9 1) fun s10 =>
 rop P (loadAt 3 s10) h1 fun s11 =>
 pop P (Instr.indexAt 24 s7 s11) fun s12 =>
 rop P (loadAt 29 s12) h1 fun s13 =>
 pop P (lenS 29 3 s13) fun s15 =>
 pop P (binE .eql 3 (.tmp 15) (.const (.int .i64 0)) s15 (.int .i64 0)) fun s16 =>
 condM s16
 (K (Value.bool false) h1)
 (pop P (nilS w1) fun s18 =>
 pop P (Instr.fieldAt 48 s18 0) fun s19 =>
 rop P (loadAt 29 s19) h1 fun s20 =>
 pop P (nilS w1) fun s22 =>
 pop P (Instr.fieldAt 48 s22 1) fun s23 =>
 rop P (loadAt 3 s23) h1 fun s24 =>
 pop P (nilS w1) fun s26 =>
 pop P (Instr.fieldAt 48 s26 0) fun s27 =>
 rop P (loadAt 29 s27) h1 fun s28 =>
 pop P (nilS w1) fun s30 =>
 pop P (Instr.fieldAt 48 s30 1) fun s31 =>
 rop P (loadAt 3 s31) h1 fun s32 =>
 pop P (Instr.indexAt 29 s28 s32) fun s33 =>
 rop P (loadAt 3 s33) h1 fun s34 =>
 pop P (binA .add 3 s34 (.int .i64 1)) fun s35 =>
 pop P (lenS 29 3 s13) fun s37 =>
 pop P (binA .rem 3 s35 s37) fun s38 =>
 pop P (Instr.indexAt 29 s20 s24) fun s39 =>
 uop P (Instr.storeAt 3 s39 s38) h1 fun q1 h2 =>
 pop P (nilS w1) fun s43 =>
 pop P (Instr.fieldAt 48 s43 0) fun s44 =>
 rop P (loadAt 29 s44) h2 fun s45 =>
 pop P (nilS w1) fun s47 =>
 pop P (Instr.fieldAt 48 s47 1) fun s48 =>
 rop P (loadAt 3 s48) h2 fun s49 =>
 pop P (Instr.indexAt 29 s45 s49) fun s50 =>
 rop P (loadAt 3 s50) h2 fun s51 =>
 pop P (Instr.indexAt 29 s13 s51) fun s52 =>
 rop P (loadAt 3 s52) h2 fun s53 =>
 pop P (nilS w1) fun s54 =>
 pop P (Instr.fieldAt 48 s54 1) fun s55 =>
 uop P (Instr.storeAt 3 s55 s53) h2 fun q2 h3 =>
 K (Value.bool true) h3)
theorem e130 (g0 : Value) (w1 : Value) (h : Heap) (K : KQ) : wpA Tryz.prog 56 (anOf []) (bodyOf Tryz.f130) 1 (fun A h => resA Tryz.prog A h K [.tmp 4]) (fun _ _ _ => False) (fun A h => resA Tryz.prog A h K [.tmp 4]) (aargs [g0, w1] 0) h = t130 Tryz.prog g0 w1 h K := by kernel_rfl
theorem c130 (g0 : Value) (w1 : Value) (h : Heap) (K : KQ) (H : t130 Tryz.prog g0 w1 h K) : callM Tryz.prog 130 #[g0, w1] h K :=
  callM_of_wpA mixed (fn := Tryz.f130) Tryz.func130 (c := bodyOf Tryz.f130) rfl (of_decide_eq_true (by kernel_rfl)) (anOf []) 54 56 (by kernel_rfl) rfl [.tmp 4] (by kernel_rfl) (args := [g0, w1]) (by rw [e130]; exact H)
def t131 (P : Program) (c0 : Value) (h : Heap) (K : KQ) : Prop :=
 eop P (Instr.alloc 26 true (.tuple #[])) h fun s2 h1 =>
 callM P 149 #[c0, (.int .i64 6)] h1 fun s5 h2 =>
 eop P (Instr.alloc 26 true (.tuple #[])) h2 fun g3 h3 =>
 uop P (Instr.storeAt 26 g3 s5) h3 fun q1 h4 =>
 callM P 52 #[c0, (.int .i64 16)] h4 fun s7 h5 =>
 pop P (binE .eql 3 (.tmp 7) (.const (.int .i64 0)) s7 (.int .i64 0)) fun s9 =>
 condM s9
 (pop P (Instr.fieldAt 26 g3 0) fun s10 =>
 rop P (loadAt 24 s10) h5 fun s11 =>
 pop P (Instr.fieldAt 26 g3 0) fun s12 =>
 rop P (loadAt 24 s12) h5 fun s13 =>
 pop P (Instr.indexAt 24 s13 (.int .i64 0)) fun s14 =>
 rop P (loadAt 29 s14) h5 fun s15 =>
 pop P (Instr.fieldAt 26 g3 0) fun s17 =>
 rop P (loadAt 24 s17) h5 fun s18 =>
 pop P (lenS 24 3 s18) fun s19 =>
 eop P (buildSlice 29 3 #[(0, (.int .i64 (-1))), (1, s19), (2, (.int .i64 4611686018427387904))]) h5 fun s20 h6 =>
 (∀ w : World, w.heap = h6 -> (loadAt 24 s17).run P w = .ok s18 w) /\
 (∀ w : World, w.heap = h6 -> (loadAt 29 s14).run P w = .ok s15 w) /\
 (∀ w : World, w.heap = h6 -> (loadAt 24 s12).run P w = .ok s13 w) /\
 (∀ w : World, w.heap = h6 -> (loadAt 24 s10).run P w = .ok s11 w) /\
 callM P 53 #[c0, s20] h6 fun s21 h7 =>
 (∀ w : World, w.heap = h7 -> (loadAt 24 s17).run P w = .ok s18 w) /\
 (∀ w : World, w.heap = h7 -> (loadAt 29 s14).run P w = .ok s15 w) /\
 (∀ w : World, w.heap = h7 -> (loadAt 24 s12).run P w = .ok s13 w) /\
 (∀ w : World, w.heap = h7 -> (loadAt 24 s10).run P w = .ok s11 w) /\
 eop P (buildSlice 29 1 #[(0, s21)]) h7 fun s22 h8 =>
 (∀ w : World, w.heap = h8 -> (loadAt 24 s17).run P w = .ok s18 w) /\
 (∀ w : World, w.heap = h8 -> (loadAt 29 s14).run P w = .ok s15 w) /\
 (∀ w : World, w.heap = h8 -> (loadAt 24 s12).run P w = .ok s13 w) /\
 (∀ w : World, w.heap = h8 -> (loadAt 24 s10).run P w = .ok s11 w) /\
 eop P (appS 29 29 29 s15 s22) h8 fun s23 h9 =>
 (∀ w : World, w.heap = h9 -> (loadAt 24 s17).run P w = .ok s18 w) /\
 (∀ w : World, w.heap = h9 -> (loadAt 24 s12).run P w = .ok s13 w) /\
 (∀ w : World, w.heap = h9 -> (loadAt 24 s10).run P w = .ok s11 w) /\
 pop P (Instr.indexAt 24 s11 (.int .i64 0)) fun s24 =>
 uop P (Instr.storeAt 29 s24 s23) h9 fun q2 h10 =>
 rop P (loadAt 26 g3) h10 fun s52 =>
 uop P (Instr.storeAt 26 s2 s52) h10 fun q3 h11 =>
 rop P (loadAt 26 s2) h11 fun r_1 =>
 K r_1 h11)
 (pop P (binE .eql 3 (.tmp 7) (.const (.int .i64 1)) s7 (.int .i64 1)) fun s26 =>
 condM s26
 (pop P (Instr.fieldAt 26 g3 0) fun s27 =>
 rop P (loadAt 24 s27) h5 fun s28 =>
 callM P 52 #[c0, (.int .i64 2)] h5 fun s30 h12 =>
 (∀ w : World, w.heap = h12 -> (loadAt 24 s27).run P w = .ok s28 w) /\
 pop P (binA .add 3 (.int .i64 5) s30) fun s31 =>
 eop P (Instr.makeSlice 29 s31 s31) h12 fun s32 h13 =>
 (∀ w : World, w.heap = h13 -> (loadAt 24 s27).run P w = .ok s28 w) /\
 pop P (Instr.indexAt 24 s28 (.int .i64 0)) fun s33 =>
 uop P (Instr.storeAt 29 s33 s32) h13 fun q4 h14 =>
 rop P (loadAt 26 g3) h14 fun s52b =>
 uop P (Instr.storeAt 26 s2 s52b) h14 fun q5 h15 =>
 rop P (loadAt 26 s2) h15 fun r_2 =>
 K r_2 h15)
 (pop P (binE .eql 3 (.tmp 7) (.const (.int .i64 2)) s7 (.int .i64 2)) fun s35 =>
 condM s35
 (∃ (I1 : List Value -> Heap -> Prop) (μ_1 : List Value -> Heap -> Nat), I1 [] h5 /\
 ∀ (junk1 : Nat -> Value) (h16 : Heap), I1 [] h16 ->
 pop P (Instr.fieldAt 26 g3 0) fun s36 =>
 rop P (loadAt 24 s36) h16 fun s37 =>
 pop P (lenS 24 3 s37) fun s38 =>
 callM P 52 #[c0, (.int .i64 2)] h16 fun s40 h17 =>
 (∀ w : World, w.heap = h17 -> (loadAt 24 s36).run P w = .ok s37 w) /\
 pop P (binA .add 3 (.int .i64 8) s40) fun s41 =>
 pop P (binA .lss 3 s38 s41) fun s42 =>
 condM s42
 (pop P (Instr.fieldAt 26 g3 0) fun s43 =>
 rop P (loadAt 24 s43) h17 fun s44 =>
 eop P (buildSlice 29 1 #[(0, (.int .i64 0))]) h17 fun s45 h18 =>
 eop P (buildSlice 24 1 #[(0, s45)]) h18 fun s46 h19 =>
 eop P (appS 24 24 24 s44 s46) h19 fun s47 h20 =>
 pop P (Instr.fieldAt 26 g3 0) fun s48 =>
 uop P (Instr.storeAt 24 s48 s47) h20 fun q6 h21 =>
 I1 [] h21 /\ μ_1 [] h21 < μ_1 [] h16)
 (rop P (loadAt 26 g3) h17 fun s52c =>
 uop P (Instr.storeAt 26 s2 s52c) h17 fun q7 h22 =>
 rop P (loadAt 26 s2) h22 fun r_3 =>
 K r_3 h22))
 (pop P (binE .eql 3 (.tmp 7) (.const (.int .i64 3)) s7 (.int .i64 3)) fun s50 =>
 condM s50
 (pop P (Instr.build 26 #[]) fun s51 =>
 uop P (Instr.storeAt 26 g3 s51) h5 fun q8 h23 =>
 rop P (loadAt 26 g3) h23 fun s52d =>
 uop P (Instr.storeAt 26 s2 s52d) h23 fun q9 h24 =>
 rop P (loadAt 26 s2) h24 fun r_4 =>
 K r_4 h24)
 (rop P (loadAt 26 g3) h5 fun s52e =>
 uop P (Instr.storeAt 26 s2 s52e) h5 fun q10 h25 =>
 rop P (loadAt 26 s2) h25 fun r_5 =>
 K r_5 h25))))
theorem e131 (c0 : Value) (h : Heap) (K : KQ) : wpA Tryz.prog 53 (anOf [(7548, [])]) (bodyOf Tryz.f131) 1 (fun A h => resA Tryz.prog A h K [.cell 2 26]) (fun _ _ _ => False) (fun A h => resA Tryz.prog A h K [.cell 2 26]) (aargs [c0] 0) h = t131 Tryz.prog c0 h K := by kernel_rfl
theorem c131 (c0 : Value) (h : Heap) (K : KQ) (H : t131 Tryz.prog c0 h K) : callM Tryz.prog 131 #[c0] h K :=
  callM_of_wpA mixed (fn := Tryz.f131) Tryz.func131 (c := bodyOf Tryz.f131) rfl (of_decide_eq_true (by kernel_rfl)) (anOf [(7548, [])]) 52 53 (by kernel_rfl) rfl [.cell 2 26] (by kernel_rfl) (args := [c0]) (by rw [e131]; exact H)
def t132 (P : Program) (m0 : Value) (h : Heap) (K : KQ) : Prop :=
 pop P (lenS 24 3 m0) fun s14 =>
 eop P (buildSlice 24 0 #[]) h fun s15 h1 =>
 pop P (lenS 24 3 m0) fun s17 =>
 ∃ (I1 : List Value -> Heap -> Prop) (μ_1 : List Value -> Heap -> Nat), I1 [s15, (.int .i64 0)] h1 /\
 ∀ (junk1 : Nat -> Value) (a6 : Value) (s18 : Value) (h2 : Heap), I1 [a6, s18] h2 ->
 pop P (binA .lss 3 s18 s17) fun s19 =>
 condM s19
 (pop P (Instr.indexAt 24 m0 s18) fun s20 =>
 rop P (loadAt 29 s20) h2 fun s21 =>
 callM P 78 #[s21] h2 fun s24 h3 =>
 eop P (buildSlice 24 1 #[(0, s24)]) h3 fun s25 h4 =>
 eop P (appS 24 24 24 a6 s25) h4 fun s26 h5 =>
 pop P (binA .add 3 s18 (.int .i64 1)) fun s27 =>
 I1 [s26, s27] h5 /\ μ_1 [s26, s27] h5 < μ_1 [a6, s18] h2)
 (∃ (I2 : List Value -> Heap -> Prop) (μ_2 : List Value -> Heap -> Nat), I2 [(.int .i64 1), (.int .i64 1), (.int .i64 0)] h2 /\
 ∀ (junk2 : Nat -> Value) (z4 : Value) (l5 : Value) (s29 : Value) (h6 : Heap), I2 [z4, l5, s29] h6 ->
 pop P (binA .lss 3 s29 s14) fun s30 =>
 condM s30
 (∃ (I3 : List Value -> Heap -> Prop) (μ_3 : List Value -> Heap -> Nat), I3 [s29] h6 /\
 ∀ (junk3 : Nat -> Value) (p10 : Value) (h7 : Heap), I3 [p10] h7 ->
 pop P (binA .lss 3 p10 s14) fun s35 =>
 guardM (asG s35 true) true (fun k_1 => k_1 a6 h7) h7 fun s37 h8 =>
 guardM (asG s35 true) true (fun k_2 => k_2 p10 h8) h8 fun s38 h9 =>
 guardM (asG s35 true) true (fun k_3 => pop P (Instr.indexAt 24 s37 s38) fun s39 =>
 k_3 s39 h9) h9 fun s39b h10 =>
 guardM (asG s35 true) true (fun k_4 => rop P (loadAt 29 s39b) h10 fun s40 =>
 k_4 s40 h10) h10 fun s40b h11 =>
 guardM (asG s35 true) true (fun k_5 => k_5 s29 h11) h11 fun s41 h12 =>
 guardM (asG s35 true) true (fun k_6 => pop P (Instr.indexAt 29 s40b s41) fun s42 =>
 k_6 s42 h12) h12 fun s42b h13 =>
 guardM (asG s35 true) true (fun k_7 => rop P (loadAt 3 s42b) h13 fun s43 =>
 k_7 s43 h13) h13 fun s43b h14 =>
 guardM (asG s35 true) true (fun k_8 => pop P (binE .eql 3 (.tmp 43) (.const (.int .i64 0)) s43b (.int .i64 0)) fun s44 =>
 k_8 s44 h14) h14 fun s44b h15 =>
 pop P (pickS s35 s44b (Value.bool false)) fun s45 =>
 condM s45
 (pop P (binA .add 3 p10 (.int .i64 1)) fun s47 =>
 I3 [s47] h15 /\ μ_3 [s47] h15 < μ_3 [p10] h7)
 (pop P (binE .eql 3 (.tmp 48) (.tmp 49) p10 s14) fun s50 =>
 condM s50
 (K (.int .i64 0) h15)
 (∃ J1 : List Value -> Heap -> Prop, (pop P (binE .neq 3 (.tmp 51) (.tmp 52) p10 s29) fun s53 =>
 condM s53
 (pop P (Instr.indexAt 24 a6 s29) fun s60 =>
 rop P (loadAt 29 s60) h15 fun s61 =>
 pop P (Instr.indexAt 24 a6 p10) fun s64 =>
 rop P (loadAt 29 s64) h15 fun s65 =>
 pop P (Instr.indexAt 24 a6 p10) fun s66 =>
 uop P (Instr.storeAt 29 s66 s61) h15 fun q1 h16 =>
 pop P (Instr.indexAt 24 a6 s29) fun s67 =>
 uop P (Instr.storeAt 29 s67 s65) h16 fun q2 h17 =>
 pop P (Op.unary .neg z4) fun s69 =>
 J1 [s69] h17)
 (J1 [z4] h15)) /\
 ∀ (junk4 : Nat -> Value) (s4a : Value) (h18 : Heap), J1 [s4a] h18 ->
 pop P (binA .add 3 s29 (.int .i64 1)) fun s71 =>
 ∃ (I4 : List Value -> Heap -> Prop) (μ_4 : List Value -> Heap -> Nat), I4 [s71] h18 /\
 ∀ (junk5 : Nat -> Value) (i11 : Value) (h19 : Heap), I4 [i11] h19 ->
 pop P (binA .lss 3 i11 s14) fun s74 =>
 condM s74
 (pop P (binA .add 3 s29 (.int .i64 1)) fun s78 =>
 ∃ (I5 : List Value -> Heap -> Prop) (μ_5 : List Value -> Heap -> Nat), I5 [s78] h19 /\
 ∀ (junk6 : Nat -> Value) (j12 : Value) (h20 : Heap), I5 [j12] h20 ->
 pop P (binA .lss 3 j12 s14) fun s81 =>
 condM s81
 (pop P (Instr.indexAt 24 a6 i11) fun s86 =>
 rop P (loadAt 29 s86) h20 fun s87 =>
 pop P (Instr.indexAt 24 a6 i11) fun s91 =>
 rop P (loadAt 29 s91) h20 fun s92 =>
 pop P (Instr.indexAt 29 s92 j12) fun s94 =>
 rop P (loadAt 3 s94) h20 fun s95 =>
 pop P (Instr.indexAt 24 a6 s29) fun s98 =>
 rop P (loadAt 29 s98) h20 fun s99 =>
 pop P (Instr.indexAt 29 s99 s29) fun s101 =>
 rop P (loadAt 3 s101) h20 fun s102 =>
 pop P (binA .mul 3 s95 s102) fun s103 =>
 pop P (Instr.indexAt 24 a6 i11) fun s106 =>
 rop P (loadAt 29 s106) h20 fun s107 =>
 pop P (Instr.indexAt 29 s107 s29) fun s109 =>
 rop P (loadAt 3 s109) h20 fun s110 =>
 pop P (Instr.indexAt 24 a6 s29) fun s113 =>
 rop P (loadAt 29 s113) h20 fun s114 =>
 pop P (Instr.indexAt 29 s114 j12) fun s116 =>
 rop P (loadAt 3 s116) h20 fun s117 =>
 pop P (binA .mul 3 s110 s117) fun s118 =>
 pop P (binA .sub 3 s103 s118) fun s119 =>
 pop P (binA .quo 3 s119 l5) fun s121 =>
 pop P (Instr.indexAt 29 s87 j12) fun s122 =>
 uop P (Instr.storeAt 3 s122 s121) h20 fun q3 h21 =>
 pop P (binA .add 3 j12 (.int .i64 1)) fun s83 =>
 I5 [s83] h21 /\ μ_5 [s83] h21 < μ_5 [j12] h20)
 (pop P (binA .add 3 i11 (.int .i64 1)) fun s76 =>
 I4 [s76] h20 /\ μ_4 [s76] h20 < μ_4 [i11] h19))
 (pop P (Instr.indexAt 24 a6 s29) fun s125 =>
 rop P (loadAt 29 s125) h19 fun s126 =>
 pop P (Instr.indexAt 29 s126 s29) fun s128 =>
 rop P (loadAt 3 s128) h19 fun s129 =>
 pop P (binA .add 3 s29 (.int .i64 1)) fun s130 =>
 I2 [s4a, s129, s130] h19 /\ μ_2 [s4a, s129, s130] h19 < μ_2 [z4, l5, s29] h6))))
 (pop P (binA .mul 3 z4 l5) fun s133 =>
 K s133 h6))
theorem e132 (m0 : Value) (h : Heap) (K : KQ) : wpA Tryz.prog 134 (anOf [(122, [6, 18]), (250, [4, 5, 29]), (128204, [10]), (128207, [4]), (2051322, [11]), (131284626, [12])]) (bodyOf Tryz.f132) 1 (fun A h => resA Tryz.prog A h K [.tmp 2]) (fun _ _ _ => False) (fun A h => resA Tryz.prog A h K [.tmp 2]) (aargs [m0] 0) h = t132 Tryz.prog m0 h K := by kernel_rfl
theorem c132 (m0 : Value) (h : Heap) (K : KQ) (H : t132 Tryz.prog m0 h K) : callM Tryz.prog 132 #[m0] h K :=
  callM_of_wpA mixed (fn := Tryz.f132) Tryz.func132 (c := bodyOf Tryz.f132) rfl (of_decide_eq_true (by kernel_rfl)) (anOf [(122, [6, 18]), (250, [4, 5, 29]), (128204, [10]), (128207, [4]), (2051322, [11]), (131284626, [12])]) 133 134 (by kernel_rfl) rfl [.tmp 2] (by kernel_rfl) (args := [m0]) (by rw [e132]; exact H)
def t133 (P : Program) (g0 : Value) (e1 : Value) (h : Heap) (K : KQ) : Prop :=
 eop P (Instr.box 26 g0) h fun g2 h1 =>
 eop P (buildSlice 24 0 #[]) h1 fun s11 h2 =>
 pop P (Instr.fieldAt 26 g2 0) fun s12 =>
 rop P (loadAt 24 s12) h2 fun s13 =>
 pop P (lenS 24 3 s13) fun s14 =>
 ∃ (I1 : List Value -> Heap -> Prop) (μ_1 : List Value -> Heap -> Nat), I1 [s11, (.int .i64 0)] h2 /\
 ∀ (junk1 : Nat -> Value) (o5 : Value) (s15 : Value) (h3 : Heap), I1 [o5, s15] h3 ->
 pop P (binA .lss 3 s15 s14) fun s16 =>
 condM s16
 (pop P (Instr.indexAt 24 s13 s15) fun s18 =>
 rop P (loadAt 29 s18) h3 fun s19 =>
 pop P (binE .eql 3 (.tmp 20) (.tmp 21) s15 e1) fun s22 =>
 condM s22
 (pop P (binA .add 3 s15 (.int .i64 1)) fun s53 =>
 I1 [o5, s53] h3 /\ μ_1 [o5, s53] h3 < μ_1 [o5, s15] h3)
 (pop P (Instr.fieldAt 26 g2 0) fun s23 =>
 rop P (loadAt 24 s23) h3 fun s24 =>
 pop P (lenS 24 3 s24) fun s25 =>
 eop P (Instr.makeSlice 29 s25 s25) h3 fun s26 h4 =>
 pop P (lenS 29 3 s19) fun s30 =>
 pop P (Instr.indexAt 29 s26 s15) fun s31 =>
 uop P (Instr.storeAt 3 s31 s30) h4 fun q1 h5 =>
 pop P (lenS 29 3 s19) fun s33 =>
 ∃ (I2 : List Value -> Heap -> Prop) (μ_2 : List Value -> Heap -> Nat), I2 [(.int .i64 0)] h5 /\
 ∀ (junk2 : Nat -> Value) (s34 : Value) (h6 : Heap), I2 [s34] h6 ->
 pop P (binA .lss 3 s34 s33) fun s35 =>
 condM s35
 (pop P (Instr.indexAt 29 s19 s34) fun s36 =>
 rop P (loadAt 3 s36) h6 fun s37 =>
 pop P (Instr.indexAt 29 s26 s37) fun s40 =>
 rop P (loadAt 3 s40) h6 fun s41 =>
 pop P (binA .sub 3 s41 (.int .i64 1)) fun s42 =>
 pop P (Instr.indexAt 29 s26 s37) fun s43 =>
 uop P (Instr.storeAt 3 s43 s42) h6 fun q2 h7 =>
 pop P (binA .add 3 s34 (.int .i64 1)) fun s44 =>
 I2 [s44] h7 /\ μ_2 [s44] h7 < μ_2 [s34] h6)
 (pop P (binA .add 3 e1 (.int .i64 1)) fun s49 =>
 callM P 150 #[s26, e1, s49] h6 fun s50 h8 =>
 eop P (buildSlice 24 1 #[(0, s50)]) h8 fun s51 h9 =>
 eop P (appS 24 24 24 o5 s51) h9 fun s52 h10 =>
 pop P (binA .add 3 s15 (.int .i64 1)) fun s53b =>
 I1 [s52, s53b] h10 /\ μ_1 [s52, s53b] h10 < μ_1 [o5, s15] h3)))
 (K o5 h3)
theorem e133 (g0 : Value) (e1 : Value) (h : Heap) (K : KQ) : wpA Tryz.prog 55 (anOf [(58, [5, 15]), (239226, [34])]) (bodyOf Tryz.f133) 1 (fun A h => resA Tryz.prog A h K [.tmp 4]) (fun _ _ _ => False) (fun A h => resA Tryz.prog A h K [.tmp 4]) (aargs [g0, e1] 0) h = t133 Tryz.prog g0 e1 h K := by kernel_rfl
theorem c133 (g0 : Value) (e1 : Value) (h : Heap) (K : KQ) (H : t133 Tryz.prog g0 e1 h K) : callM Tryz.prog 133 #[g0, e1] h K :=
  callM_of_wpA mixed (fn := Tryz.f133) Tryz.func133 (c := bodyOf Tryz.f133) rfl (of_decide_eq_true (by kernel_rfl)) (anOf [(58, [5, 15]), (239226, [34])]) 53 55 (by kernel_rfl) rfl [.tmp 4] (by kernel_rfl) (args := [g0, e1]) (by rw [e133]; exact H)
def t134 (P : Program) (p0 : Value) (s1 : Value) (h : Heap) (K : KQ) : Prop :=
 pop P (Instr.fieldAt 26 s1 0) fun s5 =>
 rop P (loadAt 24 s5) h fun s6 =>
 pop P (lenS 24 3 s6) fun s7 =>
 pop P (binA .sub 3 s7 (.int .i64 1)) fun s8 =>
 callM P 84 #[p0, (.int .i64 0), s8] h fun s9 h1 =>
 pop P (Op.unary .not s9) fun s10 =>
 K s10 h1
theorem e134 (p0 : Value) (s1 : Value) (h : Heap) (K : KQ) : wpA Tryz.prog 11 (anOf []) (bodyOf Tryz.f134) 1 (fun A h => resA Tryz.prog A h K [.tmp 3]) (fun _ _ _ => False) (fun A h => resA Tryz.prog A h K [.tmp 3]) (aargs [p0, s1] 0) h = t134 Tryz.prog p0 s1 h K := by kernel_rfl
theorem c134 (p0 : Value) (s1 : Value) (h : Heap) (K : KQ) (H : t134 Tryz.prog p0 s1 h K) : callM Tryz.prog 134 #[p0, s1] h K :=
  callM_of_wpA mixed (fn := Tryz.f134) Tryz.func134 (c := bodyOf Tryz.f134) rfl (of_decide_eq_true (by kernel_rfl)) (anOf []) 9 11 (by kernel_rfl) rfl [.tmp 3] (by kernel_rfl) (args := [p0, s1]) (by rw [e134]; exact H)
def t135 (P : Program) (y0 : Value) (p1 : Value) (h : Heap) (K : KQ) : Prop :=
 pop P (nilS y0) fun s6 =>
 pop P (Instr.fieldAt 138 s6 3) fun s7 =>
 rop P (loadAt 24 s7) h fun s8 =>
 pop P (lenS 24 3 s8) fun s9 =>
 pop P (nilS y0) fun s11 =>
 pop P (Instr.fieldAt 138 s11 4) fun s12 =>
 rop P (loadAt 3 s12) h fun s13 =>
 pop P (binA .gtr 3 s9 s13) fun s14 =>
 condM s14
 (K (.tuple #[]) h)
 (pop P (nilS y0) fun s17 =>
 pop P (Instr.fieldAt 138 s17 0) fun s18 =>
 pop P (Instr.fieldAt 26 s18 0) fun s19 =>
 rop P (loadAt 24 s19) h fun s20 =>
 pop P (lenS 24 3 s20) fun s21 =>
 pop P (binE .eql 3 (.tmp 15) (.tmp 21) p1 s21) fun s22 =>
 condM s22
 (pop P (nilS y0) fun s25 =>
 pop P (Instr.fieldAt 138 s25 3) fun s26 =>
 rop P (loadAt 24 s26) h fun s27 =>
 pop P (nilS y0) fun s29 =>
 pop P (Instr.fieldAt 138 s29 2) fun s30 =>
 rop P (loadAt 29 s30) h fun s31 =>
 callM P 79 #[s31] h fun s32 h1 =>
 (∀ w : World, w.heap = h1 -> (loadAt 24 s26).run P w = .ok s27 w) /\
 eop P (buildSlice 24 1 #[(0, s32)]) h1 fun s33 h2 =>
 (∀ w : World, w.heap = h2 -> (loadAt 24 s26).run P w = .ok s27 w) /\
 eop P (appS 24 24 24 s27 s33) h2 fun s34 h3 =>
 pop P (nilS y0) fun s35 =>
 pop P (Instr.fieldAt 138 s35 3) fun s36 =>
 uop P (Instr.storeAt 24 s36 s34) h3 fun q1 h4 =>
 K (.tuple #[]) h4)
 (pop P (nilS y0) fun s39 =>
 pop P (Instr.fieldAt 138 s39 1) fun s40 =>
 rop P (loadAt 3 s40) h fun s41 =>
 pop P (binE .eql 3 (.tmp 37) (.tmp 41) p1 s41) fun s42 =>
 condM s42
 (pop P (binA .add 3 p1 (.int .i64 1)) fun s45 =>
 callM P 135 #[y0, s45] h fun s46 h5 =>
 K (.tuple #[]) h5)
 (pop P (nilS y0) fun s48 =>
 pop P (Instr.fieldAt 138 s48 0) fun s49 =>
 pop P (Instr.fieldAt 26 s49 0) fun s50 =>
 rop P (loadAt 24 s50) h fun s51 =>
 pop P (Instr.indexAt 24 s51 p1) fun s53 =>
 rop P (loadAt 29 s53) h fun s54 =>
 pop P (lenS 29 3 s54) fun s55 =>
 ∃ (I1 : List Value -> Heap -> Prop) (μ_1 : List Value -> Heap -> Nat), I1 [(.int .i64 0)] h /\
 ∀ (junk1 : Nat -> Value) (s56 : Value) (h6 : Heap), I1 [s56] h6 ->
 pop P (binA .lss 3 s56 s55) fun s57 =>
 condM s57
 (pop P (nilS y0) fun s60 =>
 pop P (Instr.fieldAt 138 s60 2) fun s61 =>
 rop P (loadAt 29 s61) h6 fun s62 =>
 pop P (Instr.indexAt 29 s62 p1) fun s65 =>
 uop P (Instr.storeAt 3 s65 s56) h6 fun q2 h7 =>
 callM P 151 #[y0, p1] h7 fun s68 h8 =>
 pop P (Op.unary .not s68) fun s69 =>
 condM s69
 (pop P (binA .add 3 p1 (.int .i64 1)) fun s72 =>
 callM P 135 #[y0, s72] h8 fun s73 h9 =>
 pop P (binA .add 3 s56 (.int .i64 1)) fun s74 =>
 I1 [s74] h9 /\ μ_1 [s74] h9 < μ_1 [s56] h6)
 (pop P (binA .add 3 s56 (.int .i64 1)) fun s74b =>
 I1 [s74b] h8 /\ μ_1 [s74b] h8 < μ_1 [s56] h6))
 (pop P (nilS y0) fun s76 =>
 pop P (Instr.fieldAt 138 s76 2) fun s77 =>
 rop P (loadAt 29 s77) h6 fun s78 =>
 pop P (Instr.indexAt 29 s78 p1) fun s80 =>
 uop P (Instr.storeAt 3 s80 (.int .i64 0)) h6 fun q3 h10 =>
 K (.tuple #[]) h10))))
theorem e135 (y0 : Value) (p1 : Value) (h : Heap) (K : KQ) : wpA Tryz.prog 81 (anOf [(122, [56])]) (bodyOf Tryz.f135) 1 (fun A h => resA Tryz.prog A h K []) (fun _ _ _ => False) (fun A h => resA Tryz.prog A h K []) (aargs [y0, p1] 0) h = t135 Tryz.prog y0 p1 h K := by kernel_rfl
theorem c135 (y0 : Value) (p1 : Value) (h : Heap) (K : KQ) (H : t135 Tryz.prog y0 p1 h K) : callM Tryz.prog 135 #[y0, p1] h K :=
  callM_of_wpA mixed (fn := Tryz.f135) Tryz.func135 (c := bodyOf Tryz.f135) rfl (of_decide_eq_true (by kernel_rfl)) (anOf [(122, [56])]) 79 81 (by kernel_rfl) rfl [] (by kernel_rfl) (args := [y0, p1]) (by rw [e135]; exact H)
def t136 (P : Program) (g0 : Value) (p1 : Value) (h : Heap) (K : KQ) : Prop :=
 eop P (Instr.box 26 g0) h fun g2 h1 =>
 pop P (Instr.fieldAt 26 g2 0) fun s6 =>
 rop P (loadAt 24 s6) h1 fun s7 =>
 pop P (lenS 24 3 s7) fun s8 =>
 ∃ (I1 : List Value -> Heap -> Prop) (μ_1 : List Value -> Heap -> Nat), I1 [(.int .i64 0)] h1 /\
 ∀ (junk1 : Nat -> Value) (s9 : Value) (h2 : Heap), I1 [s9] h2 ->
 pop P (binA .lss 3 s9 s8) fun s10 =>
 condM s10
 (rop P (loadAt 26 g2) h2 fun s12 =>
 callM P 152 #[s12, s9] h2 fun s14 h3 =>
 pop P (Instr.indexAt 29 s14 p1) fun s16 =>
 rop P (loadAt 3 s16) h3 fun s17 =>
 pop P (binA .lss 3 s17 (.int .i64 0)) fun s18 =>
 condM s18
 (K (Value.bool false) h3)
 (pop P (binA .add 3 s9 (.int .i64 1)) fun s19 =>
 I1 [s19] h3 /\ μ_1 [s19] h3 < μ_1 [s9] h2))
 (K (Value.bool true) h2)
theorem e136 (g0 : Value) (p1 : Value) (h : Heap) (K : KQ) : wpA Tryz.prog 20 (anOf [(26, [9])]) (bodyOf Tryz.f136) 1 (fun A h => resA Tryz.prog A h K [.tmp 4]) (fun _ _ _ => False) (fun A h => resA Tryz.prog A h K [.tmp 4]) (aargs [g0, p1] 0) h = t136 Tryz.prog g0 p1 h K := by kernel_rfl
theorem c136 (g0 : Value) (p1 : Value) (h : Heap) (K : KQ) (H : t136 Tryz.prog g0 p1 h K) : callM Tryz.prog 136 #[g0, p1] h K :=
  callM_of_wpA mixed (fn := Tryz.f136) Tryz.func136 (c := bodyOf Tryz.f136) rfl (of_decide_eq_true (by kernel_rfl)) (anOf [(26, [9])]) 18 20 (by kernel_rfl) rfl [.tmp 4] (by kernel_rfl) (args := [g0, p1]) (by rw [e136]; exact H)
def t137 (P : Program) (c0 : Value) (g1 : Value) (h : Heap) (K : KQ) : Prop :=
 eop P (Instr.box 26 g1) h fun g3 h1 =>
 eop P (Instr.alloc 48 true (.tuple #[])) h1 fun s4 h2 =>
 pop P (Instr.fieldAt 26 g3 0) fun s10 =>
 rop P (loadAt 24 s10) h2 fun s11 =>
 pop P (lenS 24 3 s11) fun s12 =>
 callM P 52 #[c0, s12] h2 fun s13 h3 =>
 pop P (Instr.build 48 #[(1, s13)]) fun s14 =>
 eop P (Instr.alloc 48 true (.tuple #[])) h3 fun w5 h4 =>
 uop P (Instr.storeAt 48 w5 s14) h4 fun q1 h5 =>
 pop P (Instr.fieldAt 26 g3 0) fun s15 =>
 rop P (loadAt 24 s15) h5 fun s16 =>
 pop P (lenS 24 3 s16) fun s17 =>
 ∃ (I1 : List Value -> Heap -> Prop) (μ_1 : List Value -> Heap -> Nat), I1 [(.int .i64 0)] h5 /\
 ∀ (junk1 : Nat -> Value) (s18 : Value) (h6 : Heap), I1 [s18] h6 ->
 pop P (binA .lss 3 s18 s17) fun s19 =>
 condM s19
 (pop P (Instr.indexAt 24 s16 s18) fun s20 =>
 rop P (loadAt 29 s20) h6 fun s21 =>
 ∃ J1 : List Value -> Heap -> Prop, (pop P (lenS 29 3 s21) fun s23 =>
 pop P (binA .gtr 3 s23 (.int .i64 0)) fun s24 =>
 condM s24
 (pop P (lenS 29 3 s21) fun s27 =>
 callM P 52 #[c0, s27] h6 fun s28 h7 =>
 J1 [s28] h7)
 (J1 [(.int .i64 0)] h6)) /\
 ∀ (junk2 : Nat -> Value) (k8 : Value) (h8 : Heap), J1 [k8] h8 ->
 pop P (Instr.fieldAt 48 w5 0) fun s29 =>
 rop P (loadAt 29 s29) h8 fun s30 =>
 eop P (buildSlice 29 1 #[(0, k8)]) h8 fun s32 h9 =>
 eop P (appS 29 29 29 s30 s32) h9 fun s33 h10 =>
 pop P (Instr.fieldAt 48 w5 0) fun s34 =>
 uop P (Instr.storeAt 29 s34 s33) h10 fun q2 h11 =>
 pop P (binA .add 3 s18 (.int .i64 1)) fun s35 =>
 I1 [s35] h11 /\ μ_1 [s35] h11 < μ_1 [s18] h6)
 (rop P (loadAt 48 w5) h6 fun s36 =>
 uop P (Instr.storeAt 48 s4 s36) h6 fun q3 h12 =>
 rop P (loadAt 48 s4) h12 fun r_1 =>
 K r_1 h12)
theorem e137 (c0 : Value) (g1 : Value) (h : Heap) (K : KQ) : wpA Tryz.prog 37 (anOf [(58, [18]), (7475, [8])]) (bodyOf Tryz.f137) 1 (fun A h => resA Tryz.prog A h K [.cell 4 48]) (fun _ _ _ => False) (fun A h => resA Tryz.prog A h K [.cell 4 48]) (aargs [c0, g1] 0) h = t137 Tryz.prog c0 g1 h K := by kernel_rfl
theorem c137 (c0 : Value) (g1 : Value) (h : Heap) (K : KQ) (H : t137 Tryz.prog c0 g1 h K) : callM Tryz.prog 137 #[c0, g1] h K :=
  callM_of_wpA mixed (fn := Tryz.f137) Tryz.func137 (c := bodyOf Tryz.f137) rfl (of_decide_eq_true (by kernel_rfl)) (anOf [(58, [18]), (7475, [8])]) 35 37 (by kernel_rfl) rfl [.cell 4 48] (by kernel_rfl) (args := [c0, g1]) (by rw [e137]; exact H)
def t138 (P : Program) (g0 : Value) (e1 : Value) (r2 : Value) (p3 : Value) (h : Heap) (K : KQ) : Prop :=
 eop P (Instr.box 26 g0) h fun g4 h1 =>
 ∃ (I1 : List Value -> Heap -> Prop) (μ_1 : List Value -> Heap -> Nat), I1 [p3, (.int .i64 0)] h1 /\
 ∀ (junk1 : Nat -> Value) (p3a : Value) (n9 : Value) (h2 : Heap), I1 [p3a, n9] h2 ->
 pop P (Instr.fieldAt 26 g4 0) fun s11 =>
 rop P (loadAt 24 s11) h2 fun s12 =>
 pop P (lenS 24 3 s12) fun s13 =>
 pop P (binA .lss 3 n9 s13) fun s14 =>
 condM s14
 (pop P (binE .eql 3 (.tmp 17) (.tmp 18) p3a e1) fun s19 =>
 condM s19
 (K n9 h2)
 (rop P (loadAt 26 g4) h2 fun s21 =>
 callM P 128 #[s21, r2, p3a] h2 fun s24 h3 =>
 pop P (binA .lss 3 s24 (.int .i64 0)) fun s26 =>
 condM s26
 (K (.int .i64 (-1)) h3)
 (pop P (binA .add 3 n9 (.int .i64 1)) fun s16 =>
 I1 [s24, s16] h3 /\ μ_1 [s24, s16] h3 < μ_1 [p3a, n9] h2)))
 (K (.int .i64 (-1)) h2)
theorem e138 (g0 : Value) (e1 : Value) (r2 : Value) (p3 : Value) (h : Heap) (K : KQ) : wpA Tryz.prog 27 (anOf [(26, [3, 9])]) (bodyOf Tryz.f138) 1 (fun A h => resA Tryz.prog A h K [.tmp 8]) (fun _ _ _ => False) (fun A h => resA Tryz.prog A h K [.tmp 8]) (aargs [g0, e1, r2, p3] 0) h = t138 Tryz.prog g0 e1 r2 p3 h K := by kernel_rfl
theorem c138 (g0 : Value) (e1 : Value) (r2 : Value) (p3 : Value) (h : Heap) (K : KQ) (H : t138 Tryz.prog g0 e1 r2 p3 h K) : callM Tryz.prog 138 #[g0, e1, r2, p3] h K :=
  callM_of_wpA mixed (fn := Tryz.f138) Tryz.func138 (c := bodyOf Tryz.f138) rfl (of_decide_eq_true (by kernel_rfl)) (anOf [(26, [3, 9])]) 23 27 (by kernel_rfl) rfl [.tmp 8] (by kernel_rfl) (args := [g0, e1, r2, p3]) (by rw [e138]; exact H)
def t139 (P : Program) (c0 : Value) (h : Heap) (K : KQ) : Prop :=
 eop P (Instr.alloc 26 true (.tuple #[])) h fun s2 h1 =>
 callM P 67 #[c0, (.int .i64 6)] h1 fun s10 h2 =>
 condM s10
 (callM P 131 #[c0] h2 fun s12 h3 =>
 uop P (Instr.storeAt 26 s2 s12) h3 fun q1 h4 =>
 rop P (loadAt 26 s2) h4 fun r_1 =>
 K r_1 h4)
 (callM P 52 #[c0, (.int .i64 5)] h2 fun s14 h5 =>
 pop P (binA .add 3 (.int .i64 1) s14) fun s15 =>
 callM P 67 #[c0, (.int .i64 2)] h5 fun s18 h6 =>
 callM P 153 #[s15, s18] h6 fun s19 h7 =>
 eop P (Instr.alloc 26 true (.tuple #[])) h7 fun g4 h8 =>
 uop P (Instr.storeAt 26 g4 s19) h8 fun q2 h9 =>
 callM P 52 #[c0, (.int .i64 3)] h9 fun s21 h10 =>
 ∃ (I1 : List Value -> Heap -> Prop) (μ_1 : List Value -> Heap -> Nat), I1 [s21] h10 /\
 ∀ (junk1 : Nat -> Value) (k5 : Value) (h11 : Heap), I1 [k5] h11 ->
 pop P (binA .gtr 3 k5 (.int .i64 0)) fun s23 =>
 condM s23
 (callM P 66 #[c0, s15] h11 fun s28 h12 =>
 callM P 52 #[c0, s15] h12 fun s31 h13 =>
 pop P (binA .add 3 (.int .i64 1) s31) fun s32 =>
 ∃ (I2 : List Value -> Heap -> Prop) (μ_2 : List Value -> Heap -> Nat), I2 [(.int .i64 0)] h13 /\
 ∀ (junk2 : Nat -> Value) (i8 : Value) (h14 : Heap), I2 [i8] h14 ->
 pop P (binA .lss 3 i8 s32) fun s35 =>
 condM s35
 (pop P (Instr.fieldAt 26 g4 0) fun s38 =>
 rop P (loadAt 24 s38) h14 fun s39 =>
 pop P (Instr.indexAt 29 s28 i8) fun s42 =>
 rop P (loadAt 3 s42) h14 fun s43 =>
 pop P (Instr.fieldAt 26 g4 0) fun s44 =>
 rop P (loadAt 24 s44) h14 fun s45 =>
 pop P (Instr.indexAt 29 s28 i8) fun s48 =>
 rop P (loadAt 3 s48) h14 fun s49 =>
 pop P (Instr.indexAt 24 s45 s49) fun s50 =>
 rop P (loadAt 29 s50) h14 fun s51 =>
 pop P (binA .add 3 i8 (.int .i64 1)) fun s54 =>
 pop P (binA .rem 3 s54 s32) fun s56 =>
 pop P (Instr.indexAt 29 s28 s56) fun s57 =>
 rop P (loadAt 3 s57) h14 fun s58 =>
 eop P (buildSlice 29 1 #[(0, s58)]) h14 fun s59 h15 =>
 (∀ w : World, w.heap = h15 -> (loadAt 29 s50).run P w = .ok s51 w) /\
 (∀ w : World, w.heap = h15 -> (loadAt 3 s48).run P w = .ok s49 w) /\
 (∀ w : World, w.heap = h15 -> (loadAt 24 s44).run P w = .ok s45 w) /\
 (∀ w : World, w.heap = h15 -> (loadAt 3 s42).run P w = .ok s43 w) /\
 (∀ w : World, w.heap = h15 -> (loadAt 24 s38).run P w = .ok s39 w) /\
 eop P (appS 29 29 29 s51 s59) h15 fun s60 h16 =>
 (∀ w : World, w.heap = h16 -> (loadAt 3 s48).run P w = .ok s49 w) /\
 (∀ w : World, w.heap = h16 -> (loadAt 24 s44).run P w = .ok s45 w) /\
 (∀ w : World, w.heap = h16 -> (loadAt 3 s42).run P w = .ok s43 w) /\
 (∀ w : World, w.heap = h16 -> (loadAt 24 s38).run P w = .ok s39 w) /\
 pop P (Instr.indexAt 24 s39 s43) fun s61 =>
 uop P (Instr.storeAt 29 s61 s60) h16 fun q3 h17 =>
 pop P (binA .add 3 i8 (.int .i64 1)) fun s37 =>
 I2 [s37] h17 /\ μ_2 [s37] h17 < μ_2 [i8] h14)
 (pop P (binA .sub 3 k5 (.int .i64 1)) fun s25 =>
 I1 [s25] h14 /\ μ_1 [s25] h14 < μ_1 [k5] h11))
 (rop P (loadAt 26 g4) h11 fun s62 =>
 uop P (Instr.storeAt 26 s2 s62) h11 fun q4 h18 =>
 rop P (loadAt 26 s2) h18 fun r_2 =>
 K r_2 h18))
theorem e139 (c0 : Value) (h : Heap) (K : KQ) : wpA Tryz.prog 63 (anOf [(250, [5]), (64078, [8])]) (bodyOf Tryz.f139) 1 (fun A h => resA Tryz.prog A h K [.cell 2 26]) (fun _ _ _ => False) (fun A h => resA Tryz.prog A h K [.cell 2 26]) (aargs [c0] 0) h = t139 Tryz.prog c0 h K := by kernel_rfl
theorem c139 (c0 : Value) (h : Heap) (K : KQ) (H : t139 Tryz.prog c0 h K) : callM Tryz.prog 139 #[c0] h K :=
  callM_of_wpA mixed (fn := Tryz.f139) Tryz.func139 (c := bodyOf Tryz.f139) rfl (of_decide_eq_true (by kernel_rfl)) (anOf [(250, [5]), (64078, [8])]) 62 63 (by kernel_rfl) rfl [.cell 2 26] (by kernel_rfl) (args := [c0]) (by rw [e139]; exact H)
def t140 (P : Program) (c0 : Value) (g1 : Value) (h : Heap) (K : KQ) : Prop :=
 eop P (Instr.box 26 g1) h fun g3 h1 =>
 pop P (Instr.fieldAt 26 g3 0) fun s5 =>
 rop P (loadAt 24 s5) h1 fun s6 =>
 pop P (lenS 24 3 s6) fun s7 =>
 pop P (binE .eql 3 (.tmp 7) (.const (.int .i64 0)) s7 (.int .i64 0)) fun s8 =>
 guardM (asG s8 false) false (fun k_1 => k_1 c0 h1) h1 fun s10 h2 =>
 guardM (asG s8 false) false (fun k_2 => callM P 67 #[s10, (.int .i64 14)] h2 fun s11 h3 =>
 k_2 s11 h3) h2 fun s11b h4 =>
 pop P (pickS s8 (Value.bool true) s11b) fun s12 =>
 condM s12
 (pop P (Instr.fieldAt 26 g3 0) fun s14 =>
 rop P (loadAt 24 s14) h4 fun s15 =>
 pop P (lenS 24 3 s15) fun s16 =>
 eop P (buildSlice 29 4 #[(0, (.int .i64 (-1))), (1, (.int .i64 0)), (2, s16), (3, (.int .i64 4611686018427387904))]) h4 fun s17 h5 =>
 callM P 53 #[c0, s17] h5 fun s18 h6 =>
 K s18 h6)
 (pop P (Instr.fieldAt 26 g3 0) fun s20 =>
 rop P (loadAt 24 s20) h4 fun s21 =>
 pop P (lenS 24 3 s21) fun s22 =>
 callM P 52 #[c0, s22] h4 fun s23 h7 =>
 K s23 h7)
theorem e140 (c0 : Value) (g1 : Value) (h : Heap) (K : KQ) : wpA Tryz.prog 24 (anOf []) (bodyOf Tryz.f140) 1 (fun A h => resA Tryz.prog A h K [.tmp 4]) (fun _ _ _ => False) (fun A h => resA Tryz.prog A h K [.tmp 4]) (aargs [c0, g1] 0) h = t140 Tryz.prog c0 g1 h K := by kernel_rfl
theorem c140 (c0 : Value) (g1 : Value) (h : Heap) (K : KQ) (H : t140 Tryz.prog c0 g1 h K) : callM Tryz.prog 140 #[c0, g1] h K :=
  callM_of_wpA mixed (fn := Tryz.f140) Tryz.func140 (c := bodyOf Tryz.f140) rfl (of_decide_eq_true (by kernel_rfl)) (anOf []) 22 24 (by kernel_rfl) rfl [.tmp 4] (by kernel_rfl) (args := [c0, g1]) (by rw [e140]; exact H)
def t141 (P : Program) (y0 : Value) (f1 : Value) (h : Heap) (K : KQ) : Prop :=
 pop P (lenS 29 3 y0) fun s7 =>
 ∃ (I1 : List Value -> Heap -> Prop) (μ_1 : List Value -> Heap -> Nat), I1 [(.int .i64 0)] h /\
 ∀ (junk1 : Nat -> Value) (s8 : Value) (h1 : Heap), I1 [s8] h1 ->
 pop P (binA .lss 3 s8 s7) fun s9 =>
 condM s9
 (pop P (Instr.indexAt 29 y0 s8) fun s14 =>
 rop P (loadAt 3 s14) h1 fun s15 =>
 callV P f1 [s15] h1 fun s16 h2 =>
 condM s16
 (K s8 h2)
 (pop P (binA .add 3 s8 (.int .i64 1)) fun s18 =>
 I1 [s18] h2 /\ μ_1 [s18] h2 < μ_1 [s8] h1))
 (K (.int .i64 (-1)) h1)
theorem e141 (y0 : Value) (f1 : Value) (h : Heap) (K : KQ) : wpA Tryz.prog 19 (anOf [(26, [8])]) (bodyOf Tryz.f141) 1 (fun A h => resA Tryz.prog A h K [.tmp 4]) (fun _ _ _ => False) (fun A h => resA Tryz.prog A h K [.tmp 4]) (aargs [y0, f1] 0) h = t141 Tryz.prog y0 f1 h K := by kernel_rfl
theorem c141 (y0 : Value) (f1 : Value) (h : Heap) (K : KQ) (H : t141 Tryz.prog y0 f1 h K) : callM Tryz.prog 141 #[y0, f1] h K :=
  callM_of_wpA mixed (fn := Tryz.f141) Tryz.func141 (c := bodyOf Tryz.f141) rfl (of_decide_eq_true (by kernel_rfl)) (anOf [(26, [8])]) 17 19 (by kernel_rfl) rfl [.tmp 4] (by kernel_rfl) (args := [y0, f1]) (by rw [e141]; exact H)
def t148 (P : Program) (c0 : Value) (h : Heap) (K : KQ) : Prop :=
 eop P (Instr.alloc 26 true (.tuple #[])) h fun s2 h1 =>
 eop P (Instr.alloc 48 true (.tuple #[])) h1 fun s3 h2 =>
 callM P 131 #[c0] h2 fun s7 h3 =>
 eop P (Instr.alloc 26 true (.tuple #[])) h3 fun g4 h4 =>
 uop P (Instr.storeAt 26 g4 s7) h4 fun q1 h5 =>
 rop P (loadAt 26 g4) h5 fun s8 =>
 callM P 91 #[s8] h5 fun s9 h6 =>
 pop P (Op.unary .not s9) fun s10 =>
 condM s10
 (rop P (loadAt 26 g4) h6 fun s11 =>
 pop P (Instr.build 48 #[]) fun s12 =>
 uop P (Instr.storeAt 26 s2 s11) h6 fun q2 h7 =>
 uop P (Instr.storeAt 48 s3 s12) h7 fun q3 h8 =>
 rop P (loadAt 26 s2) h8 fun r_1 =>
 rop P (loadAt 48 s3) h8 fun r_2 =>
 K (.tuple #[r_1, r_2]) h8)
 (rop P (loadAt 26 g4) h6 fun s14 =>
 callM P 137 #[c0, s14] h6 fun s15 h9 =>
 eop P (Instr.alloc 48 true (.tuple #[])) h9 fun w5 h10 =>
 uop P (Instr.storeAt 48 w5 s15) h10 fun q4 h11 =>
 ∃ J1 : List Value -> Heap -> Prop, (callM P 52 #[c0, (.int .i64 16)] h11 fun s17 h12 =>
 pop P (binE .eql 3 (.tmp 17) (.const (.int .i64 0)) s17 (.int .i64 0)) fun s19 =>
 condM s19
 (pop P (Instr.fieldAt 26 g4 0) fun s21 =>
 rop P (loadAt 24 s21) h12 fun s22 =>
 pop P (lenS 24 3 s22) fun s23 =>
 eop P (buildSlice 29 3 #[(0, (.int .i64 (-1))), (1, s23), (2, (.int .i64 4611686018427387904))]) h12 fun s24 h13 =>
 callM P 53 #[c0, s24] h13 fun s25 h14 =>
 pop P (Instr.fieldAt 48 w5 1) fun s26 =>
 uop P (Instr.storeAt 3 s26 s25) h14 fun q5 h15 =>
 J1 [] h15)
 (pop P (binE .eql 3 (.tmp 17) (.const (.int .i64 1)) s17 (.int .i64 1)) fun s28 =>
 condM s28
 (pop P (Instr.fieldAt 48 w5 0) fun s29 =>
 rop P (loadAt 29 s29) h12 fun s30 =>
 pop P (Instr.fieldAt 48 w5 0) fun s32 =>
 rop P (loadAt 29 s32) h12 fun s33 =>
 pop P (lenS 29 3 s33) fun s34 =>
 (callM P 52 #[c0, s34] h12 fun s35 h16 =>
 (∀ w : World, w.heap = h16 -> (loadAt 29 s32).run P w = .ok s33 w) /\
 (∀ w : World, w.heap = h16 -> (loadAt 29 s29).run P w = .ok s30 w) /\
 eop P (buildSlice 29 3 #[(0, (.int .i64 (-1))), (1, (.int .i64 4)), (2, (.int .i64 5))]) h16 fun s37 h17 =>
 (∀ w : World, w.heap = h17 -> (loadAt 29 s32).run P w = .ok s33 w) /\
 (∀ w : World, w.heap = h17 -> (loadAt 29 s29).run P w = .ok s30 w) /\
 callM P 53 #[c0, s37] h17 fun s38 h18 =>
 (∀ w : World, w.heap = h18 -> (loadAt 29 s32).run P w = .ok s33 w) /\
 (∀ w : World, w.heap = h18 -> (loadAt 29 s29).run P w = .ok s30 w) /\
 pop P (Instr.indexAt 29 s30 s35) fun s39 =>
 uop P (Instr.storeAt 3 s39 s38) h18 fun q6 h19 =>
 J1 [] h19) /\
 (eop P (buildSlice 29 3 #[(0, (.int .i64 (-1))), (1, (.int .i64 4)), (2, (.int .i64 5))]) h12 fun s37b h20 =>
 (∀ w : World, w.heap = h20 -> (loadAt 29 s32).run P w = .ok s33 w) /\
 (∀ w : World, w.heap = h20 -> (loadAt 29 s29).run P w = .ok s30 w) /\
 callM P 52 #[c0, s34] h20 fun s35b h21 =>
 (∀ w : World, w.heap = h21 -> (loadAt 29 s32).run P w = .ok s33 w) /\
 (∀ w : World, w.heap = h21 -> (loadAt 29 s29).run P w = .ok s30 w) /\
 callM P 53 #[c0, s37b] h21 fun s38b h22 =>
 (∀ w : World, w.heap = h22 -> (loadAt 29 s32).run P w = .ok s33 w) /\
 (∀ w : World, w.heap = h22 -> (loadAt 29 s29).run P w = .ok s30 w) /\
 pop P (Instr.indexAt 29 s30 s35b) fun s39b =>
 uop P (Instr.storeAt 3 s39b s38b) h22 fun q7 h23 =>
 J1 [] h23))
 (pop P (binE .eql 3 (.tmp 17) (.const (.int .i64 2)) s17 (.int .i64 2)) fun s41 =>
 condM s41
 (pop P (Instr.fieldAt 48 w5 0) fun s42 =>
 rop P (loadAt 29 s42) h12 fun s43 =>
 eop P (buildSlice 29 1 #[(0, (.int .i64 0))]) h12 fun s44 h24 =>
 eop P (appS 29 29 29 s43 s44) h24 fun s45 h25 =>
 pop P (Instr.fieldAt 48 w5 0) fun s46 =>
 uop P (Instr.storeAt 29 s46 s45) h25 fun q8 h26 =>
 J1 [] h26)
 (J1 [] h12)))) /\
 ∀ (junk1 : Nat -> Value) (h27 : Heap), J1 [] h27 ->
 rop P (loadAt 26 g4) h27 fun s47 =>
 rop P (loadAt 48 w5) h27 fun s48 =>
 uop P (Instr.storeAt 26 s2 s47) h27 fun q9 h28 =>
 (∀ w : World, w.heap = h28 -> (loadAt 48 w5).run P w = .ok s48 w) /\
 uop P (Instr.storeAt 48 s3 s48) h28 fun q10 h29 =>
 rop P (loadAt 26 s2) h29 fun r_3 =>
 rop P (loadAt 48 s3) h29 fun r_4 =>
 K (.tuple #[r_3, r_4]) h29)
theorem e148 (c0 : Value) (h : Heap) (K : KQ) : wpA Tryz.prog 49 (anOf [(31, [])]) (bodyOf Tryz.f148) 1 (fun A h => resA Tryz.prog A h K [.cell 2 26, .cell 3 48]) (fun _ _ _ => False) (fun A h => resA Tryz.prog A h K [.cell 2 26, .cell 3 48]) (aargs [c0] 0) h = t148 Tryz.prog c0 h K := by kernel_rfl
theorem c148 (c0 : Value) (h : Heap) (K : KQ) (H : t148 Tryz.prog c0 h K) : callM Tryz.prog 148 #[c0] h K :=
  callM_of_wpA mixed (fn := Tryz.f148) Tryz.func148 (c := bodyOf Tryz.f148) rfl (of_decide_eq_true (by kernel_rfl)) (anOf [(31, [])]) 48 49 (by kernel_rfl) rfl [.cell 2 26, .cell 3 48] (by kernel_rfl) (args := [c0]) (by rw [e148]; exact H)
def t149 (P : Program) (c0 : Value) (c1 : Value) (h : Heap) (K : KQ) : Prop :=
 eop P (Instr.alloc 26 true (.tuple #[])) h fun s4 h1 =>
 callM P 52 #[c0, c1] h1 fun s13 h2 =>
 pop P (binA .add 3 (.int .i64 1) s13) fun s14 =>
 callM P 67 #[c0, (.int .i64 4)] h2 fun s16 h3 =>
 condM s16
 (callM P 67 #[c0, (.int .i64 2)] h3 fun s19 h4 =>
 callM P 153 #[s14, s19] h4 fun s20 h5 =>
 uop P (Instr.storeAt 26 s4 s20) h5 fun q1 h6 =>
 rop P (loadAt 26 s4) h6 fun r_1 =>
 K r_1 h6)
 (pop P (Instr.build 26 #[]) fun s21 =>
 eop P (Instr.alloc 26 true (.tuple #[])) h3 fun g6 h7 =>
 uop P (Instr.storeAt 26 g6 s21) h7 fun q2 h8 =>
 ∃ (I1 : List Value -> Heap -> Prop) (μ_1 : List Value -> Heap -> Nat), I1 [(.int .i64 0)] h8 /\
 ∀ (junk1 : Nat -> Value) (p7 : Value) (h9 : Heap), I1 [p7] h9 ->
 pop P (binA .lss 3 p7 s14) fun s24 =>
 condM s24
 (callM P 52 #[c0, (.int .i64 3)] h9 fun s28 h10 =>
 pop P (binA .add 3 (.int .i64 1) s28) fun s29 =>
 ∃ (I2 : List Value -> Heap -> Prop) (μ_2 : List Value -> Heap -> Nat), I2 [(Value.slice none 0 0), s29] h10 /\
 ∀ (junk2 : Nat -> Value) (l8 : Value) (k9 : Value) (h11 : Heap), I2 [l8, k9] h11 ->
 pop P (binA .gtr 3 k9 (.int .i64 0)) fun s31 =>
 condM s31
 (callM P 52 #[c0, s14] h11 fun s37 h12 =>
 eop P (buildSlice 29 1 #[(0, s37)]) h12 fun s38 h13 =>
 eop P (appS 29 29 29 l8 s38) h13 fun s39 h14 =>
 pop P (binA .sub 3 k9 (.int .i64 1)) fun s33 =>
 I2 [s39, s33] h14 /\ μ_2 [s39, s33] h14 < μ_2 [l8, k9] h11)
 (∃ J1 : List Value -> Heap -> Prop, (callM P 67 #[c0, (.int .i64 8)] h11 fun s41 h15 =>
 condM s41
 (J1 [(Value.slice none 0 0)] h15)
 (J1 [l8] h15)) /\
 ∀ (junk3 : Nat -> Value) (l8a : Value) (h16 : Heap), J1 [l8a] h16 ->
 pop P (Instr.fieldAt 26 g6 0) fun s42 =>
 rop P (loadAt 24 s42) h16 fun s43 =>
 eop P (buildSlice 24 1 #[(0, l8a)]) h16 fun s45 h17 =>
 eop P (appS 24 24 24 s43 s45) h17 fun s46 h18 =>
 pop P (Instr.fieldAt 26 g6 0) fun s47 =>
 uop P (Instr.storeAt 24 s47 s46) h18 fun q3 h19 =>
 pop P (binA .add 3 p7 (.int .i64 1)) fun s26 =>
 I1 [s26] h19 /\ μ_1 [s26] h19 < μ_1 [p7] h9))
 (callM P 67 #[c0, (.int .i64 2)] h9 fun s49 h20 =>
 condM s49
 (pop P (Instr.fieldAt 26 g6 0) fun s50 =>
 rop P (loadAt 24 s50) h20 fun s51 =>
 pop P (lenS 24 3 s51) fun s52 =>
 ∃ (I3 : List Value -> Heap -> Prop) (μ_3 : List Value -> Heap -> Nat), I3 [(.int .i64 0)] h20 /\
 ∀ (junk4 : Nat -> Value) (s53 : Value) (h21 : Heap), I3 [s53] h21 ->
 pop P (binA .lss 3 s53 s52) fun s54 =>
 condM s54
 (pop P (Instr.fieldAt 26 g6 0) fun s56 =>
 rop P (loadAt 24 s56) h21 fun s57 =>
 pop P (Instr.fieldAt 26 g6 0) fun s59 =>
 rop P (loadAt 24 s59) h21 fun s60 =>
 pop P (Instr.indexAt 24 s60 s53) fun s62 =>
 rop P (loadAt 29 s62) h21 fun s63 =>
 pop P (binA .add 3 s53 (.int .i64 1)) fun s65 =>
 pop P (binA .rem 3 s65 s14) fun s67 =>
 eop P (buildSlice 29 1 #[(0, s67)]) h21 fun s68 h22 =>
 (∀ w : World, w.heap = h22 -> (loadAt 29 s62).run P w = .ok s63 w) /\
 (∀ w : World, w.heap = h22 -> (loadAt 24 s59).run P w = .ok s60 w) /\
 (∀ w : World, w.heap = h22 -> (loadAt 24 s56).run P w = .ok s57 w) /\
 eop P (appS 29 29 29 s63 s68) h22 fun s69 h23 =>
 (∀ w : World, w.heap = h23 -> (loadAt 24 s59).run P w = .ok s60 w) /\
 (∀ w : World, w.heap = h23 -> (loadAt 24 s56).run P w = .ok s57 w) /\
 pop P (Instr.indexAt 24 s57 s53) fun s70 =>
 uop P (Instr.storeAt 29 s70 s69) h23 fun q4 h24 =>
 pop P (binA .add 3 s53 (.int .i64 1)) fun s71 =>
 I3 [s71] h24 /\ μ_3 [s71] h24 < μ_3 [s53] h21)
 (rop P (loadAt 26 g6) h21 fun s72 =>
 uop P (Instr.storeAt 26 s4 s72) h21 fun q5 h25 =>
 rop P (loadAt 26 s4) h25 fun r_2 =>
 K r_2 h25))
 (rop P (loadAt 26 g6) h20 fun s72b =>
 uop P (Instr.storeAt 26 s4 s72b) h20 fun q6 h26 =>
 rop P (loadAt 26 s4) h26 fun r_3 =>
 K r_3 h26)))
theorem e149 (c0 : Value) (c1 : Value) (h : Heap) (K : KQ) : wpA Tryz.prog 73 (anOf [(250, [7]), (2026, [53]), (16019, [8]), (64074, [8, 9])]) (bodyOf Tryz.f149) 1 (fun A h => resA Tryz.prog A h K [.cell 4 26]) (fun _ _ _ => False) (fun A h => resA Tryz.prog A h K [.cell 4 26]) (aargs [c0, c1] 0) h = t149 Tryz.prog c0 c1 h K := by kernel_rfl
theorem c149 (c0 : Value) (c1 : Value) (h : Heap) (K : KQ) (H : t149 Tryz.prog c0 c1 h K) : callM Tryz.prog 149 #[c0, c1] h K :=
  callM_of_wpA mixed (fn := Tryz.f149) Tryz.func149 (c := bodyOf Tryz.f149) rfl (of_decide_eq_true (by kernel_rfl)) (anOf [(250, [7]), (2026, [53]), (16019, [8]), (64074, [8, 9])]) 71 73 (by kernel_rfl) rfl [.cell 4 26] (by kernel_rfl) (args := [c0, c1]) (by rw [e149]; exact H)
def t151 (P : Program) (y0 : Value) (p1 : Value) (h : Heap) (K : KQ) : Prop :=
 ∃ (I1 : List Value -> Heap -> Prop) (μ_1 : List Value -> Heap -> Nat), I1 [p1, (.int .i64 0)] h /\
 ∀ (junk1 : Nat -> Value) (z5 : Value) (n6 : Value) (h1 : Heap), I1 [z5, n6] h1 ->
 pop P (nilS y0) fun s10 =>
 pop P (Instr.fieldAt 138 s10 0) fun s11 =>
 pop P (Instr.fieldAt 26 s11 0) fun s12 =>
 rop P (loadAt 24 s12) h1 fun s13 =>
 pop P (lenS 24 3 s13) fun s14 =>
 pop P (binA .leq 3 n6 s14) fun s15 =>
 condM s15
 (pop P (nilS y0) fun s20 =>
 pop P (Instr.fieldAt 138 s20 1) fun s21 =>
 rop P (loadAt 3 s21) h1 fun s22 =>
 pop P (binE .eql 3 (.tmp 18) (.tmp 22) z5 s22) fun s23 =>
 guardM (asG s23 false) false (fun k_1 => k_1 z5 h1) h1 fun s25 h2 =>
 guardM (asG s23 false) false (fun k_2 => k_2 p1 h2) h2 fun s26 h3 =>
 guardM (asG s23 false) false (fun k_3 => pop P (binA .gtr 3 s25 s26) fun s27 =>
 k_3 s27 h3) h3 fun s27b h4 =>
 pop P (pickS s23 (Value.bool true) s27b) fun s28 =>
 condM s28
 (K (Value.bool false) h4)
 (pop P (nilS y0) fun s30 =>
 pop P (Instr.fieldAt 138 s30 0) fun s31 =>
 rop P (loadAt 26 s31) h4 fun s32 =>
 pop P (nilS y0) fun s34 =>
 pop P (Instr.fieldAt 138 s34 2) fun s35 =>
 rop P (loadAt 29 s35) h4 fun s36 =>
 callM P 128 #[s32, s36, z5] h4 fun s38 h5 =>
 pop P (binA .lss 3 s38 (.int .i64 0)) fun s40 =>
 condM s40
 (K (Value.bool true) h5)
 (pop P (binA .add 3 n6 (.int .i64 1)) fun s17 =>
 I1 [s38, s17] h5 /\ μ_1 [s38, s17] h5 < μ_1 [z5, n6] h1)))
 (K (Value.bool true) h1)
theorem e151 (y0 : Value) (p1 : Value) (h : Heap) (K : KQ) : wpA Tryz.prog 41 (anOf [(58, [5, 6])]) (bodyOf Tryz.f151) 1 (fun A h => resA Tryz.prog A h K [.tmp 4]) (fun _ _ _ => False) (fun A h => resA Tryz.prog A h K [.tmp 4]) (aargs [y0, p1] 0) h = t151 Tryz.prog y0 p1 h K := by kernel_rfl
theorem c151 (y0 : Value) (p1 : Value) (h : Heap) (K : KQ) (H : t151 Tryz.prog y0 p1 h K) : callM Tryz.prog 151 #[y0, p1] h K :=
  callM_of_wpA mixed (fn := Tryz.f151) Tryz.func151 (c := bodyOf Tryz.f151) rfl (of_decide_eq_true (by kernel_rfl)) (anOf [(58, [5, 6])]) 39 41 (by kernel_rfl) rfl [.tmp 4] (by kernel_rfl) (args := [y0, p1]) (by rw [e151]; exact H)
def t152 (P : Program) (g0 : Value) (p1 : Value) (h : Heap) (K : KQ) : Prop :=
 eop P (Instr.box 26 g0) h fun g2 h1 =>
 pop P (Instr.fieldAt 26 g2 0) fun s11 =>
 rop P (loadAt 24 s11) h1 fun s12 =>
 pop P (lenS 24 3 s12) fun s13 =>
 eop P (Instr.makeSlice 29 s13 s13) h1 fun s14 h2 =>
 pop P (lenS 29 3 s14) fun s16 =>
 ∃ (I1 : List Value -> Heap -> Prop) (μ_1 : List Value -> Heap -> Nat), I1 [(.int .i64 0)] h2 /\
 ∀ (junk1 : Nat -> Value) (s17 : Value) (h3 : Heap), I1 [s17] h3 ->
 pop P (binA .lss 3 s17 s16) fun s18 =>
 condM s18
 (pop P (Instr.indexAt 29 s14 s17) fun s22 =>
 uop P (Instr.storeAt 3 s22 (.int .i64 (-1))) h3 fun q1 h4 =>
 pop P (binA .add 3 s17 (.int .i64 1)) fun s23 =>
 I1 [s23] h4 /\ μ_1 [s23] h4 < μ_1 [s17] h3)
 (pop P (Instr.indexAt 29 s14 p1) fun s26 =>
 uop P (Instr.storeAt 3 s26 (.int .i64 0)) h3 fun q2 h5 =>
 eop P (buildSlice 29 1 #[(0, p1)]) h5 fun s28 h6 =>
 ∃ (I2 : List Value -> Heap -> Prop) (μ_2 : List Value -> Heap -> Nat), I2 [s28, (.int .i64 0)] h6 /\
 ∀ (junk2 : Nat -> Value) (z7 : Value) (k8 : Value) (h7 : Heap), I2 [z7, k8] h7 ->
 pop P (lenS 29 3 z7) fun s31 =>
 pop P (binA .lss 3 k8 s31) fun s32 =>
 condM s32
 (pop P (Instr.fieldAt 26 g2 0) fun s35 =>
 rop P (loadAt 24 s35) h7 fun s36 =>
 pop P (Instr.indexAt 29 z7 k8) fun s39 =>
 rop P (loadAt 3 s39) h7 fun s40 =>
 pop P (Instr.indexAt 24 s36 s40) fun s41 =>
 rop P (loadAt 29 s41) h7 fun s42 =>
 pop P (lenS 29 3 s42) fun s43 =>
 ∃ (I3 : List Value -> Heap -> Prop) (μ_3 : List Value -> Heap -> Nat), I3 [z7, (.int .i64 0)] h7 /\
 ∀ (junk3 : Nat -> Value) (q7a : Value) (s44 : Value) (h8 : Heap), I3 [q7a, s44] h8 ->
 pop P (binA .lss 3 s44 s43) fun s45 =>
 condM s45
 (pop P (Instr.indexAt 29 s42 s44) fun s46 =>
 rop P (loadAt 3 s46) h8 fun s47 =>
 pop P (Instr.indexAt 29 s14 s47) fun s50 =>
 rop P (loadAt 3 s50) h8 fun s51 =>
 pop P (binA .lss 3 s51 (.int .i64 0)) fun s52 =>
 condM s52
 (pop P (Instr.indexAt 29 q7a k8) fun s58 =>
 rop P (loadAt 3 s58) h8 fun s59 =>
 pop P (Instr.indexAt 29 s14 s59) fun s60 =>
 rop P (loadAt 3 s60) h8 fun s61 =>
 pop P (binA .add 3 s61 (.int .i64 1)) fun s62 =>
 pop P (Instr.indexAt 29 s14 s47) fun s63 =>
 uop P (Instr.storeAt 3 s63 s62) h8 fun q3 h9 =>
 eop P (buildSlice 29 1 #[(0, s47)]) h9 fun s66 h10 =>
 eop P (appS 29 29 29 q7a s66) h10 fun s67 h11 =>
 pop P (binA .add 3 s44 (.int .i64 1)) fun s68 =>
 I3 [s67, s68] h11 /\ μ_3 [s67, s68] h11 < μ_3 [q7a, s44] h8)
 (pop P (binA .add 3 s44 (.int .i64 1)) fun s68b =>
 I3 [q7a, s68b] h8 /\ μ_3 [q7a, s68b] h8 < μ_3 [q7a, s44] h8))
 (pop P (binA .add 3 k8 (.int .i64 1)) fun s34 =>
 I2 [q7a, s34] h8 /\ μ_2 [q7a, s34] h8 < μ_2 [z7, k8] h7))
 (K s14 h7))
theorem e152 (g0 : Value) (p1 : Value) (h : Heap) (K : KQ) : wpA Tryz.prog 70 (anOf [(58, [17]), (506, [7, 8]), (32402, [7, 44])]) (bodyOf Tryz.f152) 1 (fun A h => resA Tryz.prog A h K [.tmp 4]) (fun _ _ _ => False) (fun A h => resA Tryz.prog A h K [.tmp 4]) (aargs [g0, p1] 0) h = t152 Tryz.prog g0 p1 h K := by kernel_rfl
theorem c152 (g0 : Value) (p1 : Value) (h : Heap) (K : KQ) (H : t152 Tryz.prog g0 p1 h K) : callM Tryz.prog 152 #[g0, p1] h K :=
  callM_of_wpA mixed (fn := Tryz.f152) Tryz.func152 (c := bodyOf Tryz.f152) rfl (of_decide_eq_true (by kernel_rfl)) (anOf [(58, [17]), (506, [7, 8]), (32402, [7, 44])]) 68 70 (by kernel_rfl) rfl [.tmp 4] (by kernel_rfl) (args := [g0, p1]) (by rw [e152]; exact H)
def t153 (P : Program) (n0 : Value) (y1 : Value) (h : Heap) (K : KQ) : Prop :=
 eop P (Instr.alloc 26 true (.tuple #[])) h fun s4 h1 =>
 pop P (Instr.build 26 #[]) fun s8 =>
 eop P (Instr.alloc 26 true (.tuple #[])) h1 fun g5 h2 =>
 uop P (Instr.storeAt 26 g5 s8) h2 fun q1 h3 =>
 ∃ (I1 : List Value -> Heap -> Prop) (μ_1 : List Value -> Heap -> Nat), I1 [(.int .i64 0)] h3 /\
 ∀ (junk1 : Nat -> Value) (p6 : Value) (h4 : Heap), I1 [p6] h4 ->
 pop P (binA .lss 3 p6 n0) fun s11 =>
 condM s11
 (pop P (binA .add 3 p6 (.int .i64 1)) fun s15 =>
 pop P (binA .rem 3 s15 n0) fun s17 =>
 eop P (buildSlice 29 1 #[(0, s17)]) h4 fun s18 h5 =>
 ∃ J1 : List Value -> Heap -> Prop, (condM y1
 (pop P (binA .add 3 p6 n0) fun s23 =>
 pop P (binA .sub 3 s23 (.int .i64 1)) fun s24 =>
 pop P (binA .rem 3 s24 n0) fun s26 =>
 eop P (buildSlice 29 1 #[(0, s26)]) h5 fun s27 h6 =>
 eop P (appS 29 29 29 s18 s27) h6 fun s28 h7 =>
 J1 [s28] h7)
 (J1 [s18] h5)) /\
 ∀ (junk2 : Nat -> Value) (l7 : Value) (h8 : Heap), J1 [l7] h8 ->
 pop P (Instr.fieldAt 26 g5 0) fun s29 =>
 rop P (loadAt 24 s29) h8 fun s30 =>
 eop P (buildSlice 24 1 #[(0, l7)]) h8 fun s32 h9 =>
 eop P (appS 24 24 24 s30 s32) h9 fun s33 h10 =>
 pop P (Instr.fieldAt 26 g5 0) fun s34 =>
 uop P (Instr.storeAt 24 s34 s33) h10 fun q2 h11 =>
 pop P (binA .add 3 p6 (.int .i64 1)) fun s13 =>
 I1 [s13] h11 /\ μ_1 [s13] h11 < μ_1 [p6] h4)
 (rop P (loadAt 26 g5) h4 fun s35 =>
 uop P (Instr.storeAt 26 s4 s35) h4 fun q3 h12 =>
 rop P (loadAt 26 s4) h12 fun r_1 =>
 K r_1 h12)
theorem e153 (n0 : Value) (y1 : Value) (h : Heap) (K : KQ) : wpA Tryz.prog 36 (anOf [(58, [6]), (1865, [7])]) (bodyOf Tryz.f153) 1 (fun A h => resA Tryz.prog A h K [.cell 4 26]) (fun _ _ _ => False) (fun A h => resA Tryz.prog A h K [.cell 4 26]) (aargs [n0, y1] 0) h = t153 Tryz.prog n0 y1 h K := by kernel_rfl
theorem c153 (n0 : Value) (y1 : Value) (h : Heap) (K : KQ) (H : t153 Tryz.prog n0 y1 h K) : callM Tryz.prog 153 #[n0, y1] h K :=
  callM_of_wpA mixed (fn := Tryz.f153) Tryz.func153 (c := bodyOf Tryz.f153) rfl (of_decide_eq_true (by kernel_rfl)) (anOf [(58, [6]), (1865, [7])]) 34 36 (by kernel_rfl) rfl [.cell 4 26] (by kernel_rfl) (args := [n0, y1]) (by rw [e153]; exact H)
end Go.Proofs.YtkjkfjkapbpgiaaGreat
