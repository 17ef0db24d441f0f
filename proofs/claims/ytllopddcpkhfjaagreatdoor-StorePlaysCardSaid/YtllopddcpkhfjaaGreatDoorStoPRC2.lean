/- The texts of this claim, put together. -/
import Derived.Test.YtllopddcpkhfjaaGreatDoorStoPRC1
/- What the functions of this program do on a part of memory, by program (prt.py) out of Lean's own print of them; for each the theorem that its code is that. -/
set_option maxRecDepth 100000
set_option linter.unusedVariables false
namespace Go.Proofs.YtllopddcpkhfjaaGreatDoor
open Go
def lit0 : Array UInt8 := ((((32 :: 32 :: 32 :: 32 :: 32 :: 32 :: 32 :: 32 :: 32 :: 32 :: 32 :: 32 :: 32 :: 32 :: 32 :: 32 :: 32 :: 32 :: 32 :: 32 :: 32 :: 32 :: 32 :: 32 :: 32 :: 32 :: 32 :: 32 :: 32 :: 32 :: 32 :: 32 :: 32 :: 32 :: 32 :: 32 :: 32 :: 32 :: 32 :: 32 :: 32 :: 32 :: 32 :: 32 :: 32 :: 32 :: 32 :: 32 :: 32 :: 32 :: 32 :: 32 :: 32 :: 32 :: 32 :: 32 :: 32 :: 32 :: 32 :: 32 :: 32 :: 32 :: 32 :: 32 :: [] : List UInt8).append) (32 :: 32 :: 32 :: 32 :: 32 :: 32 :: 32 :: 32 :: 32 :: 32 :: 32 :: 32 :: 32 :: 32 :: 32 :: 32 :: 32 :: 32 :: 32 :: 32 :: 32 :: 32 :: 32 :: 32 :: 32 :: 32 :: 32 :: 32 :: 32 :: 32 :: 32 :: 32 :: 32 :: 32 :: 32 :: 32 :: 32 :: 32 :: 32 :: 32 :: 32 :: 32 :: 32 :: 32 :: 32 :: 32 :: 32 :: 32 :: 32 :: 32 :: 32 :: 32 :: 32 :: 32 :: 32 :: 32 :: 32 :: 32 :: 32 :: 32 :: 32 :: 32 :: 32 :: 32 :: [] : List UInt8)).toArray)
def lit1 : Array UInt8 := ((((45 :: 45 :: 45 :: 45 :: 45 :: 45 :: 45 :: 45 :: 45 :: 45 :: 45 :: 45 :: 45 :: 45 :: 45 :: 45 :: 45 :: 45 :: 45 :: 45 :: 45 :: 45 :: 45 :: 45 :: 45 :: 45 :: 45 :: 45 :: 45 :: 45 :: 45 :: 45 :: 45 :: 45 :: 45 :: 45 :: 45 :: 45 :: 45 :: 45 :: 45 :: 45 :: 45 :: 45 :: 45 :: 45 :: 45 :: 45 :: 45 :: 45 :: 45 :: 45 :: 45 :: 45 :: 45 :: 45 :: 45 :: 45 :: 45 :: 45 :: 45 :: 45 :: 45 :: 45 :: [] : List UInt8).append) (45 :: 45 :: 45 :: 45 :: 45 :: 45 :: 45 :: 45 :: 45 :: 45 :: 45 :: 45 :: 45 :: 45 :: 45 :: 45 :: 45 :: 45 :: 45 :: 45 :: 45 :: 45 :: 45 :: 45 :: 45 :: 45 :: 45 :: 45 :: 45 :: 45 :: 45 :: 45 :: 45 :: 45 :: 45 :: 45 :: 45 :: 45 :: 45 :: 45 :: 45 :: 45 :: 45 :: 45 :: 45 :: 45 :: 45 :: 45 :: 45 :: 45 :: 45 :: 45 :: 45 :: 45 :: 45 :: 45 :: 45 :: 45 :: 45 :: 45 :: 45 :: 45 :: 45 :: 45 :: [] : List UInt8)).toArray)
def lit2 : Array UInt8 := ((((61 :: 61 :: 61 :: 61 :: 61 :: 61 :: 61 :: 61 :: 61 :: 61 :: 61 :: 61 :: 61 :: 61 :: 61 :: 61 :: 61 :: 61 :: 61 :: 61 :: 61 :: 61 :: 61 :: 61 :: 61 :: 61 :: 61 :: 61 :: 61 :: 61 :: 61 :: 61 :: 61 :: 61 :: 61 :: 61 :: 61 :: 61 :: 61 :: 61 :: 61 :: 61 :: 61 :: 61 :: 61 :: 61 :: 61 :: 61 :: 61 :: 61 :: 61 :: 61 :: 61 :: 61 :: 61 :: 61 :: 61 :: 61 :: 61 :: 61 :: 61 :: 61 :: 61 :: 61 :: [] : List UInt8).append) (61 :: 61 :: 61 :: 61 :: 61 :: 61 :: 61 :: 61 :: 61 :: 61 :: 61 :: 61 :: 61 :: 61 :: 61 :: 61 :: 61 :: 61 :: 61 :: 61 :: 61 :: 61 :: 61 :: 61 :: 61 :: 61 :: 61 :: 61 :: 61 :: 61 :: 61 :: 61 :: 61 :: 61 :: 61 :: 61 :: 61 :: 61 :: 61 :: 61 :: 61 :: 61 :: 61 :: 61 :: 61 :: 61 :: 61 :: 61 :: 61 :: 61 :: 61 :: 61 :: 61 :: 61 :: 61 :: 61 :: 61 :: 61 :: 61 :: 61 :: 61 :: 61 :: 61 :: 61 :: [] : List UInt8)).toArray)
def lit3 : Array UInt8 := ((((((0 :: 1 :: 2 :: 2 :: 3 :: 3 :: 3 :: 3 :: 4 :: 4 :: 4 :: 4 :: 4 :: 4 :: 4 :: 4 :: 5 :: 5 :: 5 :: 5 :: 5 :: 5 :: 5 :: 5 :: 5 :: 5 :: 5 :: 5 :: 5 :: 5 :: 5 :: 5 :: 6 :: 6 :: 6 :: 6 :: 6 :: 6 :: 6 :: 6 :: 6 :: 6 :: 6 :: 6 :: 6 :: 6 :: 6 :: 6 :: 6 :: 6 :: 6 :: 6 :: 6 :: 6 :: 6 :: 6 :: 6 :: 6 :: 6 :: 6 :: 6 :: 6 :: 6 :: 6 :: [] : List UInt8).append) (7 :: 7 :: 7 :: 7 :: 7 :: 7 :: 7 :: 7 :: 7 :: 7 :: 7 :: 7 :: 7 :: 7 :: 7 :: 7 :: 7 :: 7 :: 7 :: 7 :: 7 :: 7 :: 7 :: 7 :: 7 :: 7 :: 7 :: 7 :: 7 :: 7 :: 7 :: 7 :: 7 :: 7 :: 7 :: 7 :: 7 :: 7 :: 7 :: 7 :: 7 :: 7 :: 7 :: 7 :: 7 :: 7 :: 7 :: 7 :: 7 :: 7 :: 7 :: 7 :: 7 :: 7 :: 7 :: 7 :: 7 :: 7 :: 7 :: 7 :: 7 :: 7 :: 7 :: 7 :: [] : List UInt8)).append) (((8 :: 8 :: 8 :: 8 :: 8 :: 8 :: 8 :: 8 :: 8 :: 8 :: 8 :: 8 :: 8 :: 8 :: 8 :: 8 :: 8 :: 8 :: 8 :: 8 :: 8 :: 8 :: 8 :: 8 :: 8 :: 8 :: 8 :: 8 :: 8 :: 8 :: 8 :: 8 :: 8 :: 8 :: 8 :: 8 :: 8 :: 8 :: 8 :: 8 :: 8 :: 8 :: 8 :: 8 :: 8 :: 8 :: 8 :: 8 :: 8 :: 8 :: 8 :: 8 :: 8 :: 8 :: 8 :: 8 :: 8 :: 8 :: 8 :: 8 :: 8 :: 8 :: 8 :: 8 :: [] : List UInt8).append) (8 :: 8 :: 8 :: 8 :: 8 :: 8 :: 8 :: 8 :: 8 :: 8 :: 8 :: 8 :: 8 :: 8 :: 8 :: 8 :: 8 :: 8 :: 8 :: 8 :: 8 :: 8 :: 8 :: 8 :: 8 :: 8 :: 8 :: 8 :: 8 :: 8 :: 8 :: 8 :: 8 :: 8 :: 8 :: 8 :: 8 :: 8 :: 8 :: 8 :: 8 :: 8 :: 8 :: 8 :: 8 :: 8 :: 8 :: 8 :: 8 :: 8 :: 8 :: 8 :: 8 :: 8 :: 8 :: 8 :: 8 :: 8 :: 8 :: 8 :: 8 :: 8 :: 8 :: 8 :: [] : List UInt8))).toArray)
def carracklaw11_StorePlays_b25 (R : Value → PH → Prop) (n24 : List Value → PH → Prop) (t1 : Value) (t2 : Value) (t3 : Value) (t9 : Value) (t10 : Value) (t11 : Value) (h0 : PH) : Prop :=
 popO (SemP PG (Builtin.len_ #[T_sl_carrackref11_Act] T_int #[t1])) fun v26 =>
 popO (SemP PG (binOp BinOp.lss T_int t11 v26)) fun v27 =>
 condV v27
 (popO (SemP PG (Instr.indexAt T_sl_carrackref11_Act t1 t11)) fun v28 =>
 popO (SemE PG h0 (Instr.loadAt T_carrackref11_Act v28)) fun v29 =>
 CallsH PG id_carracklaw11_do #[t9, t10, v29] h0 fun v30 h31 =>
 (popO (SemP PG (Op.unary UnOp.not v30)) fun v32 =>
 gopV (yV v32) false (fun k35 => k35 t9 h31) h31 fun v33 h34 =>
 gopV (yV v32) false (fun k38 => k38 t10 h34) h34 fun v36 h37 =>
 gopV (yV v32) false (fun k41 => CallsH PG id_store_Store_Height #[v33] h37 fun v42 h43 => k41 v42 h43) h37 fun v39 h40 =>
 (gopV (yV v32) false (fun k46 => CallsH PG id_carrackref11_Store_Height #[v36] h40 fun v47 h48 => k46 v47 h48) h40 fun v44 h45 =>
 (gopV (yV v32) false (fun k51 => popO (SemE PG h45 (binS BinOp.neq T_uint64 (.tmp 56) (.tmp 58) v39 v44)) fun v52 => k51 v52 h45) h45 fun v49 h50 =>
 popO (pickV v32 (Value.bool true) v49) fun v53 =>
 gopV (yV v53) false (fun k56 => k56 t9 h50) h50 fun v54 h55 =>
 gopV (yV v53) false (fun k59 => k59 t10 h55) h55 fun v57 h58 =>
 gopV (yV v53) false (fun k62 => popO (SemP PG (nilS v57)) fun v63 => k62 v63 h58) h58 fun v60 h61 =>
 gopV (yV v53) false (fun k66 => popO (SemP PG (Instr.fieldAt T_carrackref11_Store v60 0)) fun v67 => k66 v67 h61) h61 fun v64 h65 =>
 gopV (yV v53) false (fun k70 => popO (SemE PG h65 (Instr.loadAt T_sl_api_Pair v64)) fun v71 => k70 v71 h65) h65 fun v68 h69 =>
 gopV (yV v53) false (fun k74 => popO (SemP PG (Builtin.len_ #[T_sl_api_Pair] T_int #[v68])) fun v75 => k74 v75 h69) h69 fun v72 h73 =>
 gopV (yV v53) false (fun k78 => CallsH PG id_store_Store_Len #[v54] h73 fun v79 h80 => k78 v79 h80) h73 fun v76 h77 =>
 ((yV v53 == some false) = true → SemE PG h77 (Instr.loadAt T_sl_api_Pair v64) = some v68) ∧ (gopV (yV v53) false (fun k83 => popO (SemE PG h77 (binS BinOp.neq T_int (.tmp 63) (.tmp 68) v76 v72)) fun v84 => k83 v84 h77) h77 fun v81 h82 =>
 popO (pickV v53 (Value.bool true) v81) fun v85 =>
 gopV (yV v85) false (fun k88 => k88 t9 h82) h82 fun v86 h87 =>
 gopV (yV v85) false (fun k91 => k91 t10 h87) h87 fun v89 h90 =>
 gopV (yV v85) false (fun k94 => popO (SemP PG (nilS v89)) fun v95 => k94 v95 h90) h90 fun v92 h93 =>
 gopV (yV v85) false (fun k98 => popO (SemP PG (Instr.fieldAt T_carrackref11_Store v92 2)) fun v99 => k98 v99 h93) h93 fun v96 h97 =>
 gopV (yV v85) false (fun k102 => popO (SemE PG h97 (Instr.loadAt T_sl_sl_api_Pair v96)) fun v103 => k102 v103 h97) h97 fun v100 h101 =>
 gopV (yV v85) false (fun k106 => popO (SemP PG (Builtin.len_ #[T_sl_sl_api_Pair] T_int #[v100])) fun v107 => k106 v107 h101) h101 fun v104 h105 =>
 gopV (yV v85) false (fun k110 => CallsH PG id_store_Store_Blocks #[v86] h105 fun v111 h112 => k110 v111 h112) h105 fun v108 h109 =>
 ((yV v85 == some false) = true → SemE PG h109 (Instr.loadAt T_sl_sl_api_Pair v96) = some v100) ∧ (gopV (yV v85) false (fun k115 => popO (SemE PG h109 (binS BinOp.neq T_int (.tmp 73) (.tmp 78) v108 v104)) fun v116 => k115 v116 h109) h109 fun v113 h114 =>
 popO (pickV v85 (Value.bool true) v113) fun v117 =>
 condV v117
 (R (Value.bool false) h114)
 (CallsH PG id_store_Store_Get #[t9, t2] h114 fun v118 h119 =>
 popO (SemP PG (Instr.extract v118 0)) fun v120 =>
 popO (SemP PG (Instr.extract v118 1)) fun v121 =>
 CallsH PG id_carrackref11_Store_Get #[t10, t2] h119 fun v122 h123 =>
 popO (SemP PG (Instr.extract v122 0)) fun v124 =>
 popO (SemP PG (Instr.extract v122 1)) fun v125 =>
 CallsH PG id_store_Store_At #[t9, t3] h123 fun v126 h127 =>
 popO (SemP PG (Instr.extract v126 0)) fun v128 =>
 popO (SemP PG (Instr.extract v126 1)) fun v129 =>
 CallsH PG id_carrackref11_Store_At #[t10, t3] h127 fun v130 h131 =>
 popO (SemP PG (Instr.extract v130 0)) fun v132 =>
 popO (SemP PG (Instr.extract v130 1)) fun v133 =>
 popO (SemE PG h131 (binS BinOp.neq T_string (.tmp 105) (.tmp 106) v120 v124)) fun v134 =>
 gopV (yV v134) false (fun k137 => k137 v121 h131) h131 fun v135 h136 =>
 gopV (yV v134) false (fun k140 => k140 v125 h136) h136 fun v138 h139 =>
 gopV (yV v134) false (fun k143 => popO (SemE PG h139 (binS BinOp.neq T_bool (.tmp 109) (.tmp 110) v135 v138)) fun v144 => k143 v144 h139) h139 fun v141 h142 =>
 popO (pickV v134 (Value.bool true) v141) fun v145 =>
 gopV (yV v145) false (fun k148 => k148 v128 h142) h142 fun v146 h147 =>
 gopV (yV v145) false (fun k151 => k151 v132 h147) h147 fun v149 h150 =>
 gopV (yV v145) false (fun k154 => CallsH PG id_carrackref11_Pairs #[v146, v149] h150 fun v155 h156 => k154 v155 h156) h150 fun v152 h153 =>
 gopV (yV v145) false (fun k159 => popO (SemP PG (Op.unary UnOp.not v152)) fun v160 => k159 v160 h153) h153 fun v157 h158 =>
 popO (pickV v145 (Value.bool true) v157) fun v161 =>
 gopV (yV v161) false (fun k164 => k164 v129 h158) h158 fun v162 h163 =>
 gopV (yV v161) false (fun k167 => k167 v133 h163) h163 fun v165 h166 =>
 gopV (yV v161) false (fun k170 => popO (SemE PG h166 (binS BinOp.neq T_int (.tmp 120) (.tmp 121) v162 v165)) fun v171 => k170 v171 h166) h166 fun v168 h169 =>
 popO (pickV v161 (Value.bool true) v168) fun v172 =>
 condV v172
 (R (Value.bool false) h169)
 (popO (SemP PG (binOp BinOp.add T_int t11 (Value.int IntKind.i64 1))) fun v173 =>
 n24 [t1, t2, t3, t9, t10, v173] h169))))))))
 (CallsH PG id_store_Store_Root #[t9, t3] h0 fun v174 h175 =>
 popO (SemP PG (Instr.extract v174 0)) fun v176 =>
 popO (SemP PG (Instr.extract v174 1)) fun v177 =>
 CallsH PG id_carrackref01_New #[] h175 fun v178 h179 =>
 CallsH PG id_carrackref11_Store_Root #[t10, v178, t3] h179 fun v180 h181 =>
 popO (SemP PG (Instr.extract v180 0)) fun v182 =>
 popO (SemP PG (Instr.extract v180 1)) fun v183 =>
 popO (SemE PG h181 (binS BinOp.eql T_string (.tmp 137) (.tmp 138) v176 v182)) fun v184 =>
 gopV (yV v184) true (fun k187 => k187 v177 h181) h181 fun v185 h186 =>
 gopV (yV v184) true (fun k190 => k190 v183 h186) h186 fun v188 h189 =>
 gopV (yV v184) true (fun k193 => popO (SemE PG h189 (binS BinOp.eql T_int (.tmp 141) (.tmp 142) v185 v188)) fun v194 => k193 v194 h189) h189 fun v191 h192 =>
 popO (pickV v184 v191 (Value.bool false)) fun v195 =>
 R v195 h192)
def carracklaw11_StorePlays (t0 : Value) (t1 : Value) (t2 : Value) (t3 : Value) (h0 : PH) (R : Value → PH → Prop) : Prop :=
 CallsH PG id_carracklaw11_awake #[] h0 fun v1 h2 =>
 popO (SemP PG (Op.unary UnOp.not v1)) fun v3 =>
 condV v3
 (R (Value.bool false) h2)
 (CallsH PG id_carracklaw11_few #[t1] h2 fun v4 h5 =>
 popO (SemP PG (Op.unary UnOp.not v4)) fun v6 =>
 gopV (yV v6) false (fun k9 => k9 t2 h5) h5 fun v7 h8 =>
 gopV (yV v6) false (fun k12 => popO (SemP PG (Builtin.len_ #[T_string] T_int #[v7])) fun v13 => k12 v13 h8) h8 fun v10 h11 =>
 gopV (yV v6) false (fun k16 => popO (SemP PG (binOp BinOp.gtr T_int v10 (Value.int IntKind.i64 300))) fun v17 => k16 v17 h11) h11 fun v14 h15 =>
 popO (pickV v6 (Value.bool true) v14) fun v18 =>
 condV v18
 (R (Value.bool true) h15)
 (CallsH PG id_store_New #[t0] h15 fun v19 h20 =>
 CallsH PG id_carrackref11_New #[t0] h20 fun v21 h22 =>
 popO (SemE PG h22 (binS BinOp.eql T_p_store_Store (.tmp 38) (.const (Value.pointer none)) v19 (Value.pointer none))) fun v23 =>
 condV v23
 (R (Value.bool false) h22)
 (LoopL [1, 2, 3, 9, 10, 11] (fun n24 ρ h => carracklaw11_StorePlays_b25 R n24 (ρ 1) (ρ 2) (ρ 3) (ρ 9) (ρ 10) (ρ 11) h) [t1, t2, t3, v19, v21, (Value.int IntKind.i64 0)] h22)))
def carracklaw11_StorePlays.ann : Ann := { b := fun i => match i with | 11 => #[0, 0, 0, 0, 12, 28, 63, 127, 255, 511, 1023, 511, 4095, 8191, 16383, 32767, 65535, 131071, 65535, 327679, 851967, 1900543, 3997695, 8388607, 16777215, 33554431, 67108863, 134217727, 67108863, 335544319, 872415231, 1946157055, 4093640703, 8589934591, 17179869183] | _ => #[], ord := fun i => match i with | 11 => [0, 1, 2, 3, 4, 5, 6, 7, 8, 9, 11, 10, 12, 13, 14, 15, 16, 18, 19, 20, 21, 22, 17, 23, 24, 25, 26, 28, 29, 30, 31, 32, 27, 33, 34] | _ => [], keep := fun i => match i with | 9 => [1, 2, 3, 9, 10, 11] | _ => [], n := 145 }
theorem carracklaw11_StorePlays.eq (t0 : Value) (t1 : Value) (t2 : Value) (t3 : Value) (h0 : PH) (R : Value → PH → Prop) : codeF PG carracklaw11_StorePlays.ann 200 (bodyOf Tryz.f3) (endH PG Tryz.f3 R) (fun t => (#[t0, t1, t2, t3] : Array Value).getD t undef) h0 = carracklaw11_StorePlays t0 t1 t2 t3 h0 R := by kernel_rfl
theorem carracklaw11_StorePlays.call {t0 : Value} {t1 : Value} {t2 : Value} {t3 : Value} {h0 : PH} {R : Value → PH → Prop} (H : carracklaw11_StorePlays t0 t1 t2 t3 h0 R) : CallsH PG id_carracklaw11_StorePlays #[t0, t1, t2, t3] h0 R :=
  callsF_by carracklaw11_StorePlays.ann 200 mix Tryz.func3 (by kernel_rfl) (by kernel_rfl) (by kernel_rfl) (by kernel_rfl) (by simp [Tryz.ntmps3]) (carracklaw11_StorePlays.eq t0 t1 t2 t3 h0 R) H

def carracklaw11_awake (h0 : PH) (R : Value → PH → Prop) : Prop :=
 CallsH PG id_store_New #[(Value.int IntKind.u64 5)] h0 fun v1 h2 =>
 popO (SemE PG h2 (binS BinOp.eql T_p_store_Store (.tmp 10) (.const (Value.pointer none)) v1 (Value.pointer none))) fun v3 =>
 condV v3
 (R (Value.bool false) h2)
 (CallsH PG id_store_Store_Set #[v1, (Value.string { data := #[97] }), (Value.string { data := #[49] })] h2 fun v4 h5 =>
 CallsH PG id_store_Store_Commit #[v1] h5 fun v6 h7 =>
 popO (SemP PG (Instr.extract v6 0)) fun v8 =>
 popO (SemP PG (Instr.extract v6 1)) fun v9 =>
 CallsH PG id_store_Store_At #[v1, (Value.int IntKind.u64 6)] h7 fun v10 h11 =>
 popO (SemP PG (Instr.extract v10 0)) fun v12 =>
 popO (SemP PG (Instr.extract v10 1)) fun v13 =>
 CallsH PG id_store_Store_At #[v1, (Value.int IntKind.u64 5)] h11 fun v14 h15 =>
 popO (SemP PG (Instr.extract v14 0)) fun v16 =>
 popO (SemP PG (Instr.extract v14 1)) fun v17 =>
 popO (SemE PG h15 (binS BinOp.eql T_api_Errno (.tmp 29) (.const (Value.int IntKind.i64 0)) v4 (Value.int IntKind.i64 0))) fun v18 =>
 gopV (yV v18) true (fun k21 => k21 v8 h15) h15 fun v19 h20 =>
 gopV (yV v18) true (fun k24 => popO (SemE PG h20 (binS BinOp.eql T_uint64 (.tmp 32) (.const (Value.int IntKind.u64 6)) v19 (Value.int IntKind.u64 6))) fun v25 => k24 v25 h20) h20 fun v22 h23 =>
 popO (pickV v18 v22 (Value.bool false)) fun v26 =>
 gopV (yV v26) true (fun k29 => k29 v9 h23) h23 fun v27 h28 =>
 gopV (yV v26) true (fun k32 => popO (SemE PG h28 (binS BinOp.eql T_api_Errno (.tmp 36) (.const (Value.int IntKind.i64 0)) v27 (Value.int IntKind.i64 0))) fun v33 => k32 v33 h28) h28 fun v30 h31 =>
 popO (pickV v26 v30 (Value.bool false)) fun v34 =>
 gopV (yV v34) true (fun k37 => k37 v12 h31) h31 fun v35 h36 =>
 gopV (yV v34) true (fun k40 => popO (SemP PG (Builtin.len_ #[T_sl_api_Pair] T_int #[v35])) fun v41 => k40 v41 h36) h36 fun v38 h39 =>
 gopV (yV v34) true (fun k44 => popO (SemE PG h39 (binS BinOp.eql T_int (.tmp 41) (.const (Value.int IntKind.i64 1)) v38 (Value.int IntKind.i64 1))) fun v45 => k44 v45 h39) h39 fun v42 h43 =>
 popO (pickV v34 v42 (Value.bool false)) fun v46 =>
 gopV (yV v46) true (fun k49 => k49 v13 h43) h43 fun v47 h48 =>
 gopV (yV v46) true (fun k52 => popO (SemE PG h48 (binS BinOp.eql T_api_Errno (.tmp 45) (.const (Value.int IntKind.i64 0)) v47 (Value.int IntKind.i64 0))) fun v53 => k52 v53 h48) h48 fun v50 h51 =>
 popO (pickV v46 v50 (Value.bool false)) fun v54 =>
 gopV (yV v54) true (fun k57 => k57 v16 h51) h51 fun v55 h56 =>
 gopV (yV v54) true (fun k60 => popO (SemP PG (Builtin.len_ #[T_sl_api_Pair] T_int #[v55])) fun v61 => k60 v61 h56) h56 fun v58 h59 =>
 gopV (yV v54) true (fun k64 => popO (SemE PG h59 (binS BinOp.eql T_int (.tmp 50) (.const (Value.int IntKind.i64 0)) v58 (Value.int IntKind.i64 0))) fun v65 => k64 v65 h59) h59 fun v62 h63 =>
 popO (pickV v54 v62 (Value.bool false)) fun v66 =>
 gopV (yV v66) true (fun k69 => k69 v17 h63) h63 fun v67 h68 =>
 gopV (yV v66) true (fun k72 => popO (SemE PG h68 (binS BinOp.eql T_api_Errno (.tmp 54) (.const (Value.int IntKind.i64 0)) v67 (Value.int IntKind.i64 0))) fun v73 => k72 v73 h68) h68 fun v70 h71 =>
 popO (pickV v66 v70 (Value.bool false)) fun v74 =>
 gopV (yV v74) true (fun k77 => k77 v1 h71) h71 fun v75 h76 =>
 gopV (yV v74) true (fun k80 => CallsH PG id_store_Store_Blocks #[v75] h76 fun v81 h82 => k80 v81 h82) h76 fun v78 h79 =>
 gopV (yV v74) true (fun k85 => popO (SemE PG h79 (binS BinOp.eql T_int (.tmp 59) (.const (Value.int IntKind.i64 2)) v78 (Value.int IntKind.i64 2))) fun v86 => k85 v86 h79) h79 fun v83 h84 =>
 popO (pickV v74 v83 (Value.bool false)) fun v87 =>
 R v87 h84)
def carracklaw11_awake.ann : Ann := { b := fun i => match i with  | _ => #[], ord := fun i => match i with  | _ => [], keep := fun i => match i with  | _ => [], n := 62 }
theorem carracklaw11_awake.eq (h0 : PH) (R : Value → PH → Prop) : codeF PG carracklaw11_awake.ann 200 (bodyOf Tryz.f4) (endH PG Tryz.f4 R) (fun t => (#[] : Array Value).getD t undef) h0 = carracklaw11_awake  h0 R := by kernel_rfl
theorem carracklaw11_awake.call {h0 : PH} {R : Value → PH → Prop} (H : carracklaw11_awake  h0 R) : CallsH PG id_carracklaw11_awake #[] h0 R :=
  callsF_by carracklaw11_awake.ann 200 mix Tryz.func4 (by kernel_rfl) (by kernel_rfl) (by kernel_rfl) (by kernel_rfl) (by simp [Tryz.ntmps4]) (carracklaw11_awake.eq  h0 R) H

def store_New (t0 : Value) (h0 : PH) (R : Value → PH → Prop) : Prop :=
 popO (SemA PG (Instr.makeMap T_map_string_string none)) fun x2 => ∀ r1, h0 r1 = none → popO (SemP PG (x2.2 r1)) fun v3 => bindH (PH.set h0 r1 x2.1) fun h4 =>
 CallsH PG id_merkle_Root #[(Value.slice none 0 0)] h4 fun v5 h6 =>
 popO (SemP PG (Instr.build T_store_block #[(1, v5)])) fun v7 =>
 popO (SemA PG (Instr.buildSlice T_sl_store_block 1 #[(0, v7)])) fun x9 => ∀ r8, h6 r8 = none → popO (SemP PG (x9.2 r8)) fun v10 => bindH (PH.set h6 r8 x9.1) fun h11 =>
 popO (SemP PG (Instr.build T_store_Store #[(0, v3), (1, v10), (2, t0)])) fun v12 =>
 ∀ r13, h11 r13 = none → bindH (PH.set h11 r13 (.cells (Value.cells v12) T_store_Store)) fun h14 =>
 R (Value.pointer (some ⟨r13, 0, none⟩)) h14
def store_New.ann : Ann := { b := fun i => match i with  | _ => #[], ord := fun i => match i with  | _ => [], keep := fun i => match i with  | _ => [], n := 10 }
theorem store_New.eq (t0 : Value) (h0 : PH) (R : Value → PH → Prop) : codeF PG store_New.ann 200 (bodyOf Tryz.f6) (endH PG Tryz.f6 R) (fun t => (#[t0] : Array Value).getD t undef) h0 = store_New t0 h0 R := by kernel_rfl
theorem store_New.call {t0 : Value} {h0 : PH} {R : Value → PH → Prop} (H : store_New t0 h0 R) : CallsH PG id_store_New #[t0] h0 R :=
  callsF_by store_New.ann 200 mix Tryz.func6 (by kernel_rfl) (by kernel_rfl) (by kernel_rfl) (by kernel_rfl) (by simp [Tryz.ntmps6]) (store_New.eq t0 h0 R) H

def merkle_Root (t0 : Value) (h0 : PH) (R : Value → PH → Prop) : Prop :=
 popO (SemP PG (Builtin.len_ #[T_sl_api_Pair] T_int #[t0])) fun v1 =>
 popO (SemE PG h0 (binS BinOp.eql T_int (.tmp 4) (.const (Value.int IntKind.i64 0)) v1 (Value.int IntKind.i64 0))) fun v2 =>
 condV v2
 (CallsH PG id_merkle_Top #[(Value.int IntKind.i64 0), (Value.string { data := #[] })] h0 fun v3 h4 =>
 R v3 h4)
 (popO (SemP PG (Builtin.len_ #[T_sl_api_Pair] T_int #[t0])) fun v5 =>
 CallsH PG id_merkle_digest #[t0] h0 fun v6 h7 =>
 CallsH PG id_merkle_Top #[v5, v6] h7 fun v8 h9 =>
 R v8 h9)
def merkle_Root.ann : Ann := { b := fun i => match i with  | _ => #[], ord := fun i => match i with  | _ => [], keep := fun i => match i with  | _ => [], n := 12 }
theorem merkle_Root.eq (t0 : Value) (h0 : PH) (R : Value → PH → Prop) : codeF PG merkle_Root.ann 200 (bodyOf Tryz.f23) (endH PG Tryz.f23 R) (fun t => (#[t0] : Array Value).getD t undef) h0 = merkle_Root t0 h0 R := by kernel_rfl
theorem merkle_Root.call {t0 : Value} {h0 : PH} {R : Value → PH → Prop} (H : merkle_Root t0 h0 R) : CallsH PG id_merkle_Root #[t0] h0 R :=
  callsF_by merkle_Root.ann 200 mix Tryz.func23 (by kernel_rfl) (by kernel_rfl) (by kernel_rfl) (by kernel_rfl) (by simp [Tryz.ntmps23]) (merkle_Root.eq t0 h0 R) H

def merkle_Top_b4 (R : Value → PH → Prop) (n3 : List Value → PH → Prop) (t1 : Value) (t5 : Value) (t6 : Value) (t11 : Value) (h0 : PH) : Prop :=
 popO (SemP PG (binOp BinOp.lss T_int t11 (Value.int IntKind.i64 8))) fun v5 =>
 condV v5
 (popO (SemP PG (binOp BinOp.mul T_int (Value.int IntKind.i64 8) t11)) fun v6 =>
 popO (SemP PG (binOp BinOp.sub T_int (Value.int IntKind.i64 56) v6)) fun v7 =>
 popO (SemP PG (binOp BinOp.shr T_uint64 t5 v7)) fun v8 =>
 popO (SemP PG (binOp BinOp.and T_uint64 v8 (Value.int IntKind.u64 255))) fun v9 =>
 popO (SemP PG (convert T_uint64 T_int v9)) fun v10 =>
 CallsH PG id_merkle_one #[v10] h0 fun v11 h12 =>
 popO (SemP PG (binOp BinOp.add T_string t6 v11)) fun v13 =>
 popO (SemP PG (binOp BinOp.add T_int t11 (Value.int IntKind.i64 1))) fun v14 =>
 n3 [t1, t5, v13, v14] h12)
 (popO (SemA PG (Instr.buildSlice T_sl_string 3 #[(0, (Value.string { data := #[2] })), (1, t6), (2, t1)])) fun x16 => ∀ r15, h0 r15 = none → popO (SemP PG (x16.2 r15)) fun v17 => bindH (PH.set h0 r15 x16.1) fun h18 =>
 CallsH PG id_sha_Sum #[v17] h18 fun v19 h20 =>
 R v19 h20)
def merkle_Top (t0 : Value) (t1 : Value) (h0 : PH) (R : Value → PH → Prop) : Prop :=
 popO (SemP PG (Builtin.max_ #[T_int, T_int] T_int #[(Value.int IntKind.i64 0), t0])) fun v1 =>
 popO (SemP PG (convert T_int T_uint64 v1)) fun v2 =>
 LoopL [1, 5, 6, 11] (fun n3 ρ h => merkle_Top_b4 R n3 (ρ 1) (ρ 5) (ρ 6) (ρ 11) h) [t1, v2, (Value.string { data := #[] }), (Value.int IntKind.i64 0)] h0
def merkle_Top.ann : Ann := { b := fun i => match i with  | _ => #[], ord := fun i => match i with  | _ => [], keep := fun i => match i with | 4 => [1, 5, 6, 11] | _ => [], n := 29 }
theorem merkle_Top.eq (t0 : Value) (t1 : Value) (h0 : PH) (R : Value → PH → Prop) : codeF PG merkle_Top.ann 200 (bodyOf Tryz.f36) (endH PG Tryz.f36 R) (fun t => (#[t0, t1] : Array Value).getD t undef) h0 = merkle_Top t0 t1 h0 R := by kernel_rfl
theorem merkle_Top.call {t0 : Value} {t1 : Value} {h0 : PH} {R : Value → PH → Prop} (H : merkle_Top t0 t1 h0 R) : CallsH PG id_merkle_Top #[t0, t1] h0 R :=
  callsF_by merkle_Top.ann 200 mix Tryz.func36 (by kernel_rfl) (by kernel_rfl) (by kernel_rfl) (by kernel_rfl) (by simp [Tryz.ntmps36]) (merkle_Top.eq t0 t1 h0 R) H

def merkle_one (t0 : Value) (h0 : PH) (R : Value → PH → Prop) : Prop :=
 popO (SemP PG (convert T_int T_uint8 t0)) fun v1 =>
 popO (SemA PG (Instr.buildSlice T_sl_uint8 1 #[(0, v1)])) fun x3 => ∀ r2, h0 r2 = none → popO (SemP PG (x3.2 r2)) fun v4 => bindH (PH.set h0 r2 x3.1) fun h5 =>
 popO (SemE PG h5 (convert T_sl_uint8 T_string v4)) fun v6 =>
 R v6 h5
def merkle_one.ann : Ann := { b := fun i => match i with  | _ => #[], ord := fun i => match i with  | _ => [], keep := fun i => match i with  | _ => [], n := 7 }
theorem merkle_one.eq (t0 : Value) (h0 : PH) (R : Value → PH → Prop) : codeF PG merkle_one.ann 200 (bodyOf Tryz.f46) (endH PG Tryz.f46 R) (fun t => (#[t0] : Array Value).getD t undef) h0 = merkle_one t0 h0 R := by kernel_rfl
theorem merkle_one.call {t0 : Value} {h0 : PH} {R : Value → PH → Prop} (H : merkle_one t0 h0 R) : CallsH PG id_merkle_one #[t0] h0 R :=
  callsF_by merkle_one.ann 200 mix Tryz.func46 (by kernel_rfl) (by kernel_rfl) (by kernel_rfl) (by kernel_rfl) (by simp [Tryz.ntmps46]) (merkle_one.eq t0 h0 R) H

def sha_Sum_b5 (R : Value → PH → Prop) (n4 : List Value → PH → Prop) (t3 : Value) (t7 : Value) (t8 : Value) (t9 : Value) (h0 : PH) : Prop :=
 popO (SemP PG (binOp BinOp.lss T_int t9 t8)) fun v6 =>
 condV v6
 (popO (SemP PG (Instr.indexAt T_sl_string t7 t9)) fun v7 =>
 popO (SemE PG h0 (Instr.loadAt T_string v7)) fun v8 =>
 CallsH PG id_sha_Hash_Write #[t3, v8] h0 fun v9 h10 =>
 popO (SemP PG (binOp BinOp.add T_int t9 (Value.int IntKind.i64 1))) fun v11 =>
 n4 [t3, t7, t8, v11] h10)
 (CallsH PG id_sha_Hash_Sum #[t3] h0 fun v12 h13 =>
 R v12 h13)
def sha_Sum (t0 : Value) (h0 : PH) (R : Value → PH → Prop) : Prop :=
 CallsH PG id_sha_New #[] h0 fun v1 h2 =>
 popO (SemP PG (Builtin.len_ #[T_sl_string] T_int #[t0])) fun v3 =>
 LoopL [3, 7, 8, 9] (fun n4 ρ h => sha_Sum_b5 R n4 (ρ 3) (ρ 7) (ρ 8) (ρ 9) h) [v1, t0, v3, (Value.int IntKind.i64 0)] h2
def sha_Sum.ann : Ann := { b := fun i => match i with  | _ => #[], ord := fun i => match i with  | _ => [], keep := fun i => match i with | 3 => [3, 7, 8, 9] | _ => [], n := 19 }
theorem sha_Sum.eq (t0 : Value) (h0 : PH) (R : Value → PH → Prop) : codeF PG sha_Sum.ann 200 (bodyOf Tryz.f47) (endH PG Tryz.f47 R) (fun t => (#[t0] : Array Value).getD t undef) h0 = sha_Sum t0 h0 R := by kernel_rfl
theorem sha_Sum.call {t0 : Value} {h0 : PH} {R : Value → PH → Prop} (H : sha_Sum t0 h0 R) : CallsH PG id_sha_Sum #[t0] h0 R :=
  callsF_by sha_Sum.ann 200 mix Tryz.func47 (by kernel_rfl) (by kernel_rfl) (by kernel_rfl) (by kernel_rfl) (by simp [Tryz.ntmps47]) (sha_Sum.eq t0 h0 R) H

def sha_New (h0 : PH) (R : Value → PH → Prop) : Prop :=
 CallsH PG id_sha_begin #[] h0 fun v1 h2 =>
 popO (SemP PG (Instr.build T_sha_Hash #[(0, v1)])) fun v3 =>
 ∀ r4, h2 r4 = none → bindH (PH.set h2 r4 (.cells (Value.cells v3) T_sha_Hash)) fun h5 =>
 R (Value.pointer (some ⟨r4, 0, none⟩)) h5
def sha_New.ann : Ann := { b := fun i => match i with  | _ => #[], ord := fun i => match i with  | _ => [], keep := fun i => match i with  | _ => [], n := 4 }
theorem sha_New.eq (h0 : PH) (R : Value → PH → Prop) : codeF PG sha_New.ann 200 (bodyOf Tryz.f66) (endH PG Tryz.f66 R) (fun t => (#[] : Array Value).getD t undef) h0 = sha_New  h0 R := by kernel_rfl
theorem sha_New.call {h0 : PH} {R : Value → PH → Prop} (H : sha_New  h0 R) : CallsH PG id_sha_New #[] h0 R :=
  callsF_by sha_New.ann 200 mix Tryz.func66 (by kernel_rfl) (by kernel_rfl) (by kernel_rfl) (by kernel_rfl) (by simp [Tryz.ntmps66]) (sha_New.eq  h0 R) H

def sha_begin (h0 : PH) (R : Value → PH → Prop) : Prop :=
 ∀ r1, h0 r1 = none → bindH (PH.set h0 r1 (.cells (zcells PG T_sha_state) T_sha_state)) fun h2 =>
 popO (SemP PG (Instr.build T_8_uint32 #[(0, (Value.int IntKind.u32 1779033703)), (1, (Value.int IntKind.u32 3144134277)), (2, (Value.int IntKind.u32 1013904242)), (3, (Value.int IntKind.u32 2773480762)), (4, (Value.int IntKind.u32 1359893119)), (5, (Value.int IntKind.u32 2600822924)), (6, (Value.int IntKind.u32 528734635)), (7, (Value.int IntKind.u32 1541459225))])) fun v3 =>
 popO (SemP PG (Instr.build T_sha_state #[(0, v3)])) fun v4 =>
 SemH PG (storeS T_sha_state (Value.pointer (some ⟨r1, 0, none⟩)) v4) h2 fun v5 h6 =>
 popO (SemE PG h6 (Instr.loadAt T_sha_state (Value.pointer (some ⟨r1, 0, none⟩)))) fun v7 =>
 R v7 h6
def sha_begin.ann : Ann := { b := fun i => match i with  | _ => #[], ord := fun i => match i with  | _ => [], keep := fun i => match i with  | _ => [], n := 3 }
theorem sha_begin.eq (h0 : PH) (R : Value → PH → Prop) : codeF PG sha_begin.ann 200 (bodyOf Tryz.f77) (endH PG Tryz.f77 R) (fun t => (#[] : Array Value).getD t undef) h0 = sha_begin  h0 R := by kernel_rfl
theorem sha_begin.call {h0 : PH} {R : Value → PH → Prop} (H : sha_begin  h0 R) : CallsH PG id_sha_begin #[] h0 R :=
  callsF_by sha_begin.ann 200 mix Tryz.func77 (by kernel_rfl) (by kernel_rfl) (by kernel_rfl) (by kernel_rfl) (by simp [Tryz.ntmps77]) (sha_begin.eq  h0 R) H

def sha_Hash_Write_b21 (R : Value → PH → Prop) (n20 : List Value → PH → Prop) (t0 : Value) (h0 : PH) : Prop :=
 popO (SemP PG (nilS t0)) fun v22 =>
 popO (SemP PG (Instr.fieldAt T_sha_Hash v22 1)) fun v23 =>
 popO (SemE PG h0 (Instr.loadAt T_string v23)) fun v24 =>
 popO (SemP PG (Builtin.len_ #[T_string] T_int #[v24])) fun v25 =>
 popO (SemP PG (binOp BinOp.geq T_int v25 (Value.int IntKind.i64 64))) fun v26 =>
 condV v26
 (popO (SemP PG (nilS t0)) fun v27 =>
 popO (SemP PG (Instr.fieldAt T_sha_Hash v27 0)) fun v28 =>
 popO (SemP PG (nilS t0)) fun v29 =>
 popO (SemP PG (Instr.fieldAt T_sha_Hash v29 1)) fun v30 =>
 popO (SemE PG h0 (Instr.loadAt T_string v30)) fun v31 =>
 popO (SemP PG (Instr.sliceAt T_string v31 none (some (Value.int IntKind.i64 64)) none)) fun v32 =>
 CallsH PG id_sha_state_mix #[v28, v32] h0 fun v33 h34 =>
 (popO (SemP PG (nilS t0)) fun v35 =>
 popO (SemP PG (Instr.fieldAt T_sha_Hash v35 1)) fun v36 =>
 popO (SemE PG h34 (Instr.loadAt T_string v36)) fun v37 =>
 popO (SemP PG (Instr.sliceAt T_string v37 (some (Value.int IntKind.i64 64)) none none)) fun v38 =>
 popO (SemP PG (nilS t0)) fun v39 =>
 popO (SemP PG (Instr.fieldAt T_sha_Hash v39 1)) fun v40 =>
 SemH PG (storeS T_string v40 v38) h34 fun v41 h42 =>
 n20 [t0] h42))
 (R (Value.tuple #[]) h0)
def sha_Hash_Write (t0 : Value) (t1 : Value) (h0 : PH) (R : Value → PH → Prop) : Prop :=
 popO (SemP PG (nilS t0)) fun v1 =>
 popO (SemP PG (Instr.fieldAt T_sha_Hash v1 2)) fun v2 =>
 popO (SemE PG h0 (Instr.loadAt T_int v2)) fun v3 =>
 popO (SemP PG (Builtin.len_ #[T_string] T_int #[t1])) fun v4 =>
 popO (SemP PG (binOp BinOp.add T_int v3 v4)) fun v5 =>
 popO (SemP PG (nilS t0)) fun v6 =>
 popO (SemP PG (Instr.fieldAt T_sha_Hash v6 2)) fun v7 =>
 SemH PG (storeS T_int v7 v5) h0 fun v8 h9 =>
 popO (SemP PG (nilS t0)) fun v10 =>
 popO (SemP PG (Instr.fieldAt T_sha_Hash v10 1)) fun v11 =>
 popO (SemE PG h9 (Instr.loadAt T_string v11)) fun v12 =>
 popO (SemP PG (binOp BinOp.add T_string v12 t1)) fun v13 =>
 CallsH PG id_strings_Clone #[v13] h9 fun v14 h15 =>
 popO (SemP PG (nilS t0)) fun v16 =>
 popO (SemP PG (Instr.fieldAt T_sha_Hash v16 1)) fun v17 =>
 SemH PG (storeS T_string v17 v14) h15 fun v18 h19 =>
 LoopL [0] (fun n20 ρ h => sha_Hash_Write_b21 R n20 (ρ 0) h) [t0] h19
def sha_Hash_Write.ann : Ann := { b := fun i => match i with | 3 => #[0, 1, 3, 0, 8, 24, 56, 120, 255] | _ => #[], ord := fun i => match i with | 3 => [0, 1, 2, 3, 4, 5, 6, 7, 8] | _ => [], keep := fun i => match i with | 2 => [0] | _ => [], n := 46 }
theorem sha_Hash_Write.eq (t0 : Value) (t1 : Value) (h0 : PH) (R : Value → PH → Prop) : codeF PG sha_Hash_Write.ann 200 (bodyOf Tryz.f67) (endH PG Tryz.f67 R) (fun t => (#[t0, t1] : Array Value).getD t undef) h0 = sha_Hash_Write t0 t1 h0 R := by kernel_rfl
theorem sha_Hash_Write.call {t0 : Value} {t1 : Value} {h0 : PH} {R : Value → PH → Prop} (H : sha_Hash_Write t0 t1 h0 R) : CallsH PG id_sha_Hash_Write #[t0, t1] h0 R :=
  callsF_by sha_Hash_Write.ann 200 mix Tryz.func67 (by kernel_rfl) (by kernel_rfl) (by kernel_rfl) (by kernel_rfl) (by simp [Tryz.ntmps67]) (sha_Hash_Write.eq t0 t1 h0 R) H

def strings_Clone (t0 : Value) (h0 : PH) (R : Value → PH → Prop) : Prop :=
 CallsH PG id_internal_stringslite_Clone #[t0] h0 fun v1 h2 =>
 R v1 h2
def strings_Clone.ann : Ann := { b := fun i => match i with  | _ => #[], ord := fun i => match i with  | _ => [], keep := fun i => match i with  | _ => [], n := 5 }
theorem strings_Clone.eq (t0 : Value) (h0 : PH) (R : Value → PH → Prop) : codeF PG strings_Clone.ann 200 (bodyOf Tryz.f78) (endH PG Tryz.f78 R) (fun t => (#[t0] : Array Value).getD t undef) h0 = strings_Clone t0 h0 R := by kernel_rfl
theorem strings_Clone.call {t0 : Value} {h0 : PH} {R : Value → PH → Prop} (H : strings_Clone t0 h0 R) : CallsH PG id_strings_Clone #[t0] h0 R :=
  callsF_by strings_Clone.ann 200 mix Tryz.func78 (by kernel_rfl) (by kernel_rfl) (by kernel_rfl) (by kernel_rfl) (by simp [Tryz.ntmps78]) (strings_Clone.eq t0 h0 R) H

def internal_stringslite_Clone (t0 : Value) (h0 : PH) (R : Value → PH → Prop) : Prop :=
 popO (SemP PG (Builtin.len_ #[T_string] T_int #[t0])) fun v1 =>
 popO (SemE PG h0 (binS BinOp.eql T_int (.tmp 5) (.const (Value.int IntKind.i64 0)) v1 (Value.int IntKind.i64 0))) fun v2 =>
 condV v2
 (R (Value.string { data := #[] }) h0)
 (popO (SemP PG (Builtin.len_ #[T_string] T_int #[t0])) fun v3 =>
 popO (SemA PG (Instr.makeSlice T_sl_uint8 v3 v3)) fun x5 => ∀ r4, h0 r4 = none → popO (SemP PG (x5.2 r4)) fun v6 => bindH (PH.set h0 r4 x5.1) fun h7 =>
 SemH PG (Builtin.copy_ #[T_sl_uint8, T_string] T_int #[v6, t0]) h7 fun v8 h9 =>
 popO (SemP PG (Instr.indexAt T_sl_uint8 v6 (Value.int IntKind.i64 0))) fun v10 =>
 popO (SemP PG (Builtin.len_ #[T_sl_uint8] T_int #[v6])) fun v11 =>
 SemH PG (Builtin.unsafeString_ #[T_p_uint8, T_int] T_string #[v10, v11]) h9 fun v12 h13 =>
 R v12 h13)
def internal_stringslite_Clone.ann : Ann := { b := fun i => match i with  | _ => #[], ord := fun i => match i with  | _ => [], keep := fun i => match i with  | _ => [], n := 18 }
theorem internal_stringslite_Clone.eq (t0 : Value) (h0 : PH) (R : Value → PH → Prop) : codeF PG internal_stringslite_Clone.ann 200 (bodyOf Tryz.f90) (endH PG Tryz.f90 R) (fun t => (#[t0] : Array Value).getD t undef) h0 = internal_stringslite_Clone t0 h0 R := by kernel_rfl
theorem internal_stringslite_Clone.call {t0 : Value} {h0 : PH} {R : Value → PH → Prop} (H : internal_stringslite_Clone t0 h0 R) : CallsH PG id_internal_stringslite_Clone #[t0] h0 R :=
  callsF_by internal_stringslite_Clone.ann 200 mix Tryz.func90 (by kernel_rfl) (by kernel_rfl) (by kernel_rfl) (by kernel_rfl) (by simp [Tryz.ntmps90]) (internal_stringslite_Clone.eq t0 h0 R) H

def sha_state_mix_b85 (R : Value → PH → Prop) (n84 : List Value → PH → Prop) (t0 : Value) (t5 : Value) (t92 : Value) (h0 : PH) : Prop :=
 popO (SemP PG (binOp BinOp.lss T_int t92 (Value.int IntKind.i64 8))) fun v86 =>
 condV v86
 (popO (SemP PG (nilS t0)) fun v87 =>
 popO (SemP PG (Instr.fieldAt T_sha_state v87 0)) fun v88 =>
 popO (SemP PG (Instr.indexAt T_8_uint32 v88 t92)) fun v89 =>
 popO (SemE PG h0 (Instr.loadAt T_uint32 v89)) fun v90 =>
 popO (SemP PG (Instr.indexAt T_8_uint32 t5 t92)) fun v91 =>
 popO (SemE PG h0 (Instr.loadAt T_uint32 v91)) fun v92 =>
 popO (SemP PG (binOp BinOp.add T_uint32 v90 v92)) fun v93 =>
 popO (SemP PG (nilS t0)) fun v94 =>
 popO (SemP PG (Instr.fieldAt T_sha_state v94 0)) fun v95 =>
 popO (SemP PG (Instr.indexAt T_8_uint32 v95 t92)) fun v96 =>
 SemH PG (storeS T_uint32 v96 v93) h0 fun v97 h98 =>
 (popO (SemP PG (binOp BinOp.add T_int t92 (Value.int IntKind.i64 1))) fun v99 =>
 n84 [t0, t5, v99] h98))
 (R (Value.tuple #[]) h0)
def sha_state_mix_b15 (R : Value → PH → Prop) (n14 : List Value → PH → Prop) (t0 : Value) (t4 : Value) (t5 : Value) (t18 : Value) (h0 : PH) : Prop :=
 popO (SemP PG (binOp BinOp.lss T_int t18 (Value.int IntKind.i64 64))) fun v16 =>
 condV v16
 (popO (SemP PG (Instr.indexAt T_8_uint32 t5 (Value.int IntKind.i64 0))) fun v17 =>
 popO (SemE PG h0 (Instr.loadAt T_uint32 v17)) fun v18 =>
 popO (SemP PG (Instr.indexAt T_8_uint32 t5 (Value.int IntKind.i64 4))) fun v19 =>
 popO (SemE PG h0 (Instr.loadAt T_uint32 v19)) fun v20 =>
 popO (SemP PG (Instr.indexAt T_8_uint32 t5 (Value.int IntKind.i64 7))) fun v21 =>
 popO (SemE PG h0 (Instr.loadAt T_uint32 v21)) fun v22 =>
 popO (SemP PG (Instr.indexAt T_8_uint32 t5 (Value.int IntKind.i64 5))) fun v23 =>
 popO (SemE PG h0 (Instr.loadAt T_uint32 v23)) fun v24 =>
 popO (SemP PG (binOp BinOp.and T_uint32 v20 v24)) fun v25 =>
 popO (SemP PG (Op.unary UnOp.xor v20)) fun v26 =>
 popO (SemP PG (Instr.indexAt T_8_uint32 t5 (Value.int IntKind.i64 6))) fun v27 =>
 popO (SemE PG h0 (Instr.loadAt T_uint32 v27)) fun v28 =>
 popO (SemP PG (binOp BinOp.and T_uint32 v26 v28)) fun v29 =>
 popO (SemP PG (binOp BinOp.xor T_uint32 v25 v29)) fun v30 =>
 popO (SemP PG (Instr.indexAt T_64_uint32 (Value.pointer (some ⟨0, 0, none⟩)) t18)) fun v31 =>
 popO (SemE PG h0 (Instr.loadAt T_uint32 v31)) fun v32 =>
 popO (SemP PG (Instr.indexAt T_64_uint32 t4 t18)) fun v33 =>
 popO (SemE PG h0 (Instr.loadAt T_uint32 v33)) fun v34 =>
 CallsH PG id_sha_turn #[v20, (Value.int IntKind.i64 6)] h0 fun v35 h36 =>
 SemE PG h36 (Instr.loadAt T_uint32 v33) = some v34 ∧ SemE PG h36 (Instr.loadAt T_uint32 v31) = some v32 ∧ SemE PG h36 (Instr.loadAt T_uint32 v27) = some v28 ∧ SemE PG h36 (Instr.loadAt T_uint32 v23) = some v24 ∧ SemE PG h36 (Instr.loadAt T_uint32 v21) = some v22 ∧ (CallsH PG id_sha_turn #[v20, (Value.int IntKind.i64 11)] h36 fun v37 h38 =>
 SemE PG h38 (Instr.loadAt T_uint32 v33) = some v34 ∧ SemE PG h38 (Instr.loadAt T_uint32 v31) = some v32 ∧ SemE PG h38 (Instr.loadAt T_uint32 v27) = some v28 ∧ SemE PG h38 (Instr.loadAt T_uint32 v23) = some v24 ∧ SemE PG h38 (Instr.loadAt T_uint32 v21) = some v22 ∧ (popO (SemP PG (binOp BinOp.xor T_uint32 v35 v37)) fun v39 =>
 CallsH PG id_sha_turn #[v20, (Value.int IntKind.i64 25)] h38 fun v40 h41 =>
 SemE PG h41 (Instr.loadAt T_uint32 v33) = some v34 ∧ SemE PG h41 (Instr.loadAt T_uint32 v31) = some v32 ∧ SemE PG h41 (Instr.loadAt T_uint32 v27) = some v28 ∧ SemE PG h41 (Instr.loadAt T_uint32 v23) = some v24 ∧ SemE PG h41 (Instr.loadAt T_uint32 v21) = some v22 ∧ (popO (SemP PG (binOp BinOp.xor T_uint32 v39 v40)) fun v42 =>
 popO (SemP PG (binOp BinOp.add T_uint32 v22 v42)) fun v43 =>
 popO (SemP PG (binOp BinOp.add T_uint32 v43 v30)) fun v44 =>
 popO (SemP PG (binOp BinOp.add T_uint32 v44 v32)) fun v45 =>
 popO (SemP PG (binOp BinOp.add T_uint32 v45 v34)) fun v46 =>
 popO (SemP PG (Instr.indexAt T_8_uint32 t5 (Value.int IntKind.i64 1))) fun v47 =>
 popO (SemE PG h41 (Instr.loadAt T_uint32 v47)) fun v48 =>
 popO (SemP PG (binOp BinOp.and T_uint32 v18 v48)) fun v49 =>
 popO (SemP PG (Instr.indexAt T_8_uint32 t5 (Value.int IntKind.i64 2))) fun v50 =>
 popO (SemE PG h41 (Instr.loadAt T_uint32 v50)) fun v51 =>
 popO (SemP PG (binOp BinOp.and T_uint32 v18 v51)) fun v52 =>
 popO (SemP PG (binOp BinOp.xor T_uint32 v49 v52)) fun v53 =>
 popO (SemP PG (Instr.indexAt T_8_uint32 t5 (Value.int IntKind.i64 1))) fun v54 =>
 popO (SemE PG h41 (Instr.loadAt T_uint32 v54)) fun v55 =>
 popO (SemP PG (Instr.indexAt T_8_uint32 t5 (Value.int IntKind.i64 2))) fun v56 =>
 popO (SemE PG h41 (Instr.loadAt T_uint32 v56)) fun v57 =>
 popO (SemP PG (binOp BinOp.and T_uint32 v55 v57)) fun v58 =>
 popO (SemP PG (binOp BinOp.xor T_uint32 v53 v58)) fun v59 =>
 CallsH PG id_sha_turn #[v18, (Value.int IntKind.i64 2)] h41 fun v60 h61 =>
 SemE PG h61 (Instr.loadAt T_uint32 v56) = some v57 ∧ SemE PG h61 (Instr.loadAt T_uint32 v54) = some v55 ∧ SemE PG h61 (Instr.loadAt T_uint32 v50) = some v51 ∧ SemE PG h61 (Instr.loadAt T_uint32 v47) = some v48 ∧ (CallsH PG id_sha_turn #[v18, (Value.int IntKind.i64 13)] h61 fun v62 h63 =>
 SemE PG h63 (Instr.loadAt T_uint32 v56) = some v57 ∧ SemE PG h63 (Instr.loadAt T_uint32 v54) = some v55 ∧ SemE PG h63 (Instr.loadAt T_uint32 v50) = some v51 ∧ SemE PG h63 (Instr.loadAt T_uint32 v47) = some v48 ∧ (popO (SemP PG (binOp BinOp.xor T_uint32 v60 v62)) fun v64 =>
 CallsH PG id_sha_turn #[v18, (Value.int IntKind.i64 22)] h63 fun v65 h66 =>
 SemE PG h66 (Instr.loadAt T_uint32 v56) = some v57 ∧ SemE PG h66 (Instr.loadAt T_uint32 v54) = some v55 ∧ SemE PG h66 (Instr.loadAt T_uint32 v50) = some v51 ∧ SemE PG h66 (Instr.loadAt T_uint32 v47) = some v48 ∧ (popO (SemP PG (binOp BinOp.xor T_uint32 v64 v65)) fun v67 =>
 popO (SemP PG (binOp BinOp.add T_uint32 v67 v59)) fun v68 =>
 popO (SemP PG (Instr.sliceAt T_8_uint32 t5 (some (Value.int IntKind.i64 1)) none none)) fun v69 =>
 popO (SemP PG (Instr.sliceAt T_8_uint32 t5 none (some (Value.int IntKind.i64 7)) none)) fun v70 =>
 SemH PG (Builtin.copy_ #[T_sl_uint32, T_sl_uint32] T_int #[v69, v70]) h66 fun v71 h72 =>
 (popO (SemP PG (Instr.indexAt T_8_uint32 t5 (Value.int IntKind.i64 4))) fun v73 =>
 popO (SemE PG h72 (Instr.loadAt T_uint32 v73)) fun v74 =>
 popO (SemP PG (binOp BinOp.add T_uint32 v74 v46)) fun v75 =>
 popO (SemP PG (Instr.indexAt T_8_uint32 t5 (Value.int IntKind.i64 4))) fun v76 =>
 SemH PG (storeS T_uint32 v76 v75) h72 fun v77 h78 =>
 popO (SemP PG (binOp BinOp.add T_uint32 v46 v68)) fun v79 =>
 popO (SemP PG (Instr.indexAt T_8_uint32 t5 (Value.int IntKind.i64 0))) fun v80 =>
 SemH PG (storeS T_uint32 v80 v79) h78 fun v81 h82 =>
 popO (SemP PG (binOp BinOp.add T_int t18 (Value.int IntKind.i64 1))) fun v83 =>
 n14 [t0, t4, t5, v83] h82))))))))
 (LoopL [0, 5, 92] (fun n84 ρ h => sha_state_mix_b85 R n84 (ρ 0) (ρ 5) (ρ 92) h) [t0, t5, (Value.int IntKind.i64 0)] h0)
def sha_state_mix (t0 : Value) (t1 : Value) (h0 : PH) (R : Value → PH → Prop) : Prop :=
 CallsH PG id_sha_words #[t1] h0 fun v1 h2 =>
 ∀ r3, h2 r3 = none → bindH (PH.set h2 r3 (.cells (zcells PG T_64_uint32) T_64_uint32)) fun h4 =>
 SemH PG (storeS T_64_uint32 (Value.pointer (some ⟨r3, 0, none⟩)) v1) h4 fun v5 h6 =>
 popO (SemP PG (nilS t0)) fun v7 =>
 popO (SemP PG (Instr.fieldAt T_sha_state v7 0)) fun v8 =>
 popO (SemE PG h6 (Instr.loadAt T_8_uint32 v8)) fun v9 =>
 ∀ r10, h6 r10 = none → bindH (PH.set h6 r10 (.cells (zcells PG T_8_uint32) T_8_uint32)) fun h11 =>
 SemH PG (storeS T_8_uint32 (Value.pointer (some ⟨r10, 0, none⟩)) v9) h11 fun v12 h13 =>
 LoopL [0, 4, 5, 18] (fun n14 ρ h => sha_state_mix_b15 R n14 (ρ 0) (ρ 4) (ρ 5) (ρ 18) h) [t0, (Value.pointer (some ⟨r3, 0, none⟩)), (Value.pointer (some ⟨r10, 0, none⟩)), (Value.int IntKind.i64 0)] h13
def sha_state_mix.ann : Ann := { b := fun i => match i with | 5 => #[0, 1, 0, 4, 3, 31] | 6 => #[0, 1, 0, 4, 0, 28, 60, 0, 188, 508, 1023, 0, 0, 4096, 14336, 0, 32768, 0, 131072, 491520, 1046528, 2097151, 0, 4194304, 12582912, 33554431, 0, 67108864, 201326592, 536870911, 1073741823] | 7 => #[0, 1, 0, 7, 15, 0, 47, 127, 0, 0, 512, 1792, 0, 0, 8192, 28672, 65280, 0, 131072, 0, 524288, 1966080, 4194048, 8388607, 16777215] | 8 => #[0, 0, 3] | 15 => #[0, 0, 1, 5, 15, 31, 0, 64, 192, 511, 1, 1025, 4095, 8191] | _ => #[], ord := fun i => match i with | 5 => [0, 1, 2, 3, 4, 5] | 6 => [0, 1, 2, 4, 7, 11, 12, 13, 14, 15, 16, 17, 18, 19, 20, 22, 23, 24, 26, 27, 28, 3, 5, 6, 8, 9, 10, 21, 25, 29, 30] | 7 => [0, 2, 5, 8, 9, 10, 11, 12, 13, 14, 15, 16, 17, 18, 19, 20, 21, 22, 1, 3, 4, 6, 7, 23, 24] | 8 => [0, 1, 2] | 15 => [0, 1, 2, 3, 4, 5, 6, 7, 8, 9, 10, 11, 12, 13] | _ => [], keep := fun i => match i with | 3 => [0, 4, 5, 18] | 13 => [0, 5, 92] | _ => [], n := 109 }
theorem sha_state_mix.eq (t0 : Value) (t1 : Value) (h0 : PH) (R : Value → PH → Prop) : codeF PG sha_state_mix.ann 200 (bodyOf Tryz.f79) (endH PG Tryz.f79 R) (fun t => (#[t0, t1] : Array Value).getD t undef) h0 = sha_state_mix t0 t1 h0 R := by kernel_rfl
theorem sha_state_mix.call {t0 : Value} {t1 : Value} {h0 : PH} {R : Value → PH → Prop} (H : sha_state_mix t0 t1 h0 R) : CallsH PG id_sha_state_mix #[t0, t1] h0 R :=
  callsF_by sha_state_mix.ann 200 mix Tryz.func79 (by kernel_rfl) (by kernel_rfl) (by kernel_rfl) (by kernel_rfl) (by simp [Tryz.ntmps79]) (sha_state_mix.eq t0 t1 h0 R) H

def sha_words_b31 (R : Value → PH → Prop) (n30 : List Value → PH → Prop) (t2 : Value) (t3 : Value) (t6 : Value) (h0 : PH) : Prop :=
 popO (SemP PG (binOp BinOp.lss T_int t6 (Value.int IntKind.i64 64))) fun v32 =>
 condV v32
 (popO (SemP PG (binOp BinOp.sub T_int t6 (Value.int IntKind.i64 15))) fun v33 =>
 popO (SemP PG (Instr.indexAt T_64_uint32 t3 v33)) fun v34 =>
 popO (SemE PG h0 (Instr.loadAt T_uint32 v34)) fun v35 =>
 popO (SemP PG (binOp BinOp.sub T_int t6 (Value.int IntKind.i64 2))) fun v36 =>
 popO (SemP PG (Instr.indexAt T_64_uint32 t3 v36)) fun v37 =>
 popO (SemE PG h0 (Instr.loadAt T_uint32 v37)) fun v38 =>
 popO (SemP PG (binOp BinOp.sub T_int t6 (Value.int IntKind.i64 16))) fun v39 =>
 popO (SemP PG (Instr.indexAt T_64_uint32 t3 v39)) fun v40 =>
 popO (SemE PG h0 (Instr.loadAt T_uint32 v40)) fun v41 =>
 popO (SemP PG (binOp BinOp.shr T_uint32 v35 (Value.int IntKind.u64 3))) fun v42 =>
 popO (SemP PG (binOp BinOp.sub T_int t6 (Value.int IntKind.i64 7))) fun v43 =>
 popO (SemP PG (Instr.indexAt T_64_uint32 t3 v43)) fun v44 =>
 popO (SemE PG h0 (Instr.loadAt T_uint32 v44)) fun v45 =>
 popO (SemP PG (binOp BinOp.shr T_uint32 v38 (Value.int IntKind.u64 10))) fun v46 =>
 CallsH PG id_sha_turn #[v35, (Value.int IntKind.i64 7)] h0 fun v47 h48 =>
 SemE PG h48 (Instr.loadAt T_uint32 v44) = some v45 ∧ SemE PG h48 (Instr.loadAt T_uint32 v40) = some v41 ∧ (CallsH PG id_sha_turn #[v35, (Value.int IntKind.i64 18)] h48 fun v49 h50 =>
 SemE PG h50 (Instr.loadAt T_uint32 v44) = some v45 ∧ SemE PG h50 (Instr.loadAt T_uint32 v40) = some v41 ∧ (popO (SemP PG (binOp BinOp.xor T_uint32 v47 v49)) fun v51 =>
 popO (SemP PG (binOp BinOp.xor T_uint32 v51 v42)) fun v52 =>
 popO (SemP PG (binOp BinOp.add T_uint32 v41 v52)) fun v53 =>
 popO (SemP PG (binOp BinOp.add T_uint32 v53 v45)) fun v54 =>
 CallsH PG id_sha_turn #[v38, (Value.int IntKind.i64 17)] h50 fun v55 h56 =>
 SemE PG h56 (Instr.loadAt T_uint32 v44) = some v45 ∧ SemE PG h56 (Instr.loadAt T_uint32 v40) = some v41 ∧ (CallsH PG id_sha_turn #[v38, (Value.int IntKind.i64 19)] h56 fun v57 h58 =>
 SemE PG h58 (Instr.loadAt T_uint32 v44) = some v45 ∧ SemE PG h58 (Instr.loadAt T_uint32 v40) = some v41 ∧ (popO (SemP PG (binOp BinOp.xor T_uint32 v55 v57)) fun v59 =>
 popO (SemP PG (binOp BinOp.xor T_uint32 v59 v46)) fun v60 =>
 popO (SemP PG (binOp BinOp.add T_uint32 v54 v60)) fun v61 =>
 popO (SemP PG (Instr.indexAt T_64_uint32 t3 t6)) fun v62 =>
 SemH PG (storeS T_uint32 v62 v61) h58 fun v63 h64 =>
 (popO (SemP PG (binOp BinOp.add T_int t6 (Value.int IntKind.i64 1))) fun v65 =>
 n30 [t2, t3, v65] h64))))))
 (popO (SemE PG h0 (Instr.loadAt T_64_uint32 t3)) fun v66 =>
 SemH PG (storeS T_64_uint32 t2 v66) h0 fun v67 h68 =>
 popO (SemE PG h68 (Instr.loadAt T_64_uint32 t2)) fun v69 =>
 R v69 h68)
def sha_words_b6 (R : Value → PH → Prop) (n5 : List Value → PH → Prop) (t0 : Value) (t2 : Value) (t3 : Value) (t9 : Value) (h0 : PH) : Prop :=
 popO (SemP PG (binOp BinOp.lss T_int t9 (Value.int IntKind.i64 16))) fun v7 =>
 condV v7
 (popO (SemP PG (binOp BinOp.mul T_int (Value.int IntKind.i64 4) t9)) fun v8 =>
 popO (SemP PG (binOp BinOp.mul T_int (Value.int IntKind.i64 4) t9)) fun v9 =>
 popO (SemP PG (binOp BinOp.add T_int v9 (Value.int IntKind.i64 4))) fun v10 =>
 popO (SemP PG (Instr.sliceAt T_string t0 (some v8) (some v10) none)) fun v11 =>
 popO (SemP PG (Instr.index T_string v11 (Value.int IntKind.i64 0))) fun v12 =>
 popO (SemP PG (convert T_uint8 T_uint32 v12)) fun v13 =>
 popO (SemP PG (binOp BinOp.shl T_uint32 v13 (Value.int IntKind.u64 24))) fun v14 =>
 popO (SemP PG (Instr.index T_string v11 (Value.int IntKind.i64 1))) fun v15 =>
 popO (SemP PG (convert T_uint8 T_uint32 v15)) fun v16 =>
 popO (SemP PG (binOp BinOp.shl T_uint32 v16 (Value.int IntKind.u64 16))) fun v17 =>
 popO (SemP PG (binOp BinOp.or T_uint32 v14 v17)) fun v18 =>
 popO (SemP PG (Instr.index T_string v11 (Value.int IntKind.i64 2))) fun v19 =>
 popO (SemP PG (convert T_uint8 T_uint32 v19)) fun v20 =>
 popO (SemP PG (binOp BinOp.shl T_uint32 v20 (Value.int IntKind.u64 8))) fun v21 =>
 popO (SemP PG (binOp BinOp.or T_uint32 v18 v21)) fun v22 =>
 popO (SemP PG (Instr.index T_string v11 (Value.int IntKind.i64 3))) fun v23 =>
 popO (SemP PG (convert T_uint8 T_uint32 v23)) fun v24 =>
 popO (SemP PG (binOp BinOp.or T_uint32 v22 v24)) fun v25 =>
 popO (SemP PG (Instr.indexAt T_64_uint32 t3 t9)) fun v26 =>
 SemH PG (storeS T_uint32 v26 v25) h0 fun v27 h28 =>
 (popO (SemP PG (binOp BinOp.add T_int t9 (Value.int IntKind.i64 1))) fun v29 =>
 n5 [t0, t2, t3, v29] h28))
 (LoopL [2, 3, 6] (fun n30 ρ h => sha_words_b31 R n30 (ρ 2) (ρ 3) (ρ 6) h) [t2, t3, (Value.int IntKind.i64 16)] h0)
def sha_words (t0 : Value) (h0 : PH) (R : Value → PH → Prop) : Prop :=
 ∀ r1, h0 r1 = none → bindH (PH.set h0 r1 (.cells (zcells PG T_64_uint32) T_64_uint32)) fun h2 =>
 ∀ r3, h2 r3 = none → bindH (PH.set h2 r3 (.cells (zcells PG T_64_uint32) T_64_uint32)) fun h4 =>
 LoopL [0, 2, 3, 9] (fun n5 ρ h => sha_words_b6 R n5 (ρ 0) (ρ 2) (ρ 3) (ρ 9) h) [t0, (Value.pointer (some ⟨r1, 0, none⟩)), (Value.pointer (some ⟨r3, 0, none⟩)), (Value.int IntKind.i64 0)] h4
def sha_words.ann : Ann := { b := fun i => match i with | 6 => #[0, 0, 2, 6, 14, 0, 32, 96, 224, 510, 0, 1024, 3072, 7168, 16382, 0, 32768, 98304, 262142, 524287, 1048575] | 11 => #[0, 1, 3, 7, 0, 16, 48, 112, 15, 511] | 12 => #[0, 0, 2, 6, 14, 0, 32, 0, 224, 480, 0, 1024, 4064, 8190, 0, 16384, 49152, 114688, 262142, 0, 524768, 0, 3670496, 7864800, 0, 16777216, 66585056, 134217726, 268435455, 536870911] | _ => #[], ord := fun i => match i with | 6 => [0, 1, 2, 3, 4, 5, 6, 7, 8, 9, 10, 11, 12, 13, 14, 15, 16, 17, 18, 19, 20] | 11 => [0, 1, 2, 3, 4, 5, 6, 7, 8, 9] | 12 => [0, 1, 2, 3, 4, 5, 7, 10, 11, 14, 15, 16, 17, 19, 21, 24, 25, 6, 8, 9, 12, 13, 18, 20, 22, 23, 26, 27, 28, 29] | _ => [], keep := fun i => match i with | 3 => [0, 2, 3, 9] | 9 => [2, 3, 6] | _ => [], n := 82 }
theorem sha_words.eq (t0 : Value) (h0 : PH) (R : Value → PH → Prop) : codeF PG sha_words.ann 200 (bodyOf Tryz.f91) (endH PG Tryz.f91 R) (fun t => (#[t0] : Array Value).getD t undef) h0 = sha_words t0 h0 R := by kernel_rfl
theorem sha_words.call {t0 : Value} {h0 : PH} {R : Value → PH → Prop} (H : sha_words t0 h0 R) : CallsH PG id_sha_words #[t0] h0 R :=
  callsF_by sha_words.ann 200 mix Tryz.func91 (by kernel_rfl) (by kernel_rfl) (by kernel_rfl) (by kernel_rfl) (by simp [Tryz.ntmps91]) (sha_words.eq t0 h0 R) H

def sha_turn (t0 : Value) (t1 : Value) (h0 : PH) (R : Value → PH → Prop) : Prop :=
 popO (SemP PG (Op.unary UnOp.neg t1)) fun v1 =>
 CallsH PG id_math_bits_RotateLeft32 #[t0, v1] h0 fun v2 h3 =>
 R v2 h3
def sha_turn.ann : Ann := { b := fun i => match i with  | _ => #[], ord := fun i => match i with  | _ => [], keep := fun i => match i with  | _ => [], n := 9 }
theorem sha_turn.eq (t0 : Value) (t1 : Value) (h0 : PH) (R : Value → PH → Prop) : codeF PG sha_turn.ann 200 (bodyOf Tryz.f92) (endH PG Tryz.f92 R) (fun t => (#[t0, t1] : Array Value).getD t undef) h0 = sha_turn t0 t1 h0 R := by kernel_rfl
theorem sha_turn.call {t0 : Value} {t1 : Value} {h0 : PH} {R : Value → PH → Prop} (H : sha_turn t0 t1 h0 R) : CallsH PG id_sha_turn #[t0, t1] h0 R :=
  callsF_by sha_turn.ann 200 mix Tryz.func92 (by kernel_rfl) (by kernel_rfl) (by kernel_rfl) (by kernel_rfl) (by simp [Tryz.ntmps92]) (sha_turn.eq t0 t1 h0 R) H

def math_bits_RotateLeft32 (t0 : Value) (t1 : Value) (h0 : PH) (R : Value → PH → Prop) : Prop :=
 popO (SemP PG (convert T_int T_uint t1)) fun v1 =>
 popO (SemP PG (binOp BinOp.and T_uint v1 (Value.int IntKind.u64 31))) fun v2 =>
 popO (SemP PG (binOp BinOp.shl T_uint32 t0 v2)) fun v3 =>
 popO (SemP PG (binOp BinOp.sub T_uint (Value.int IntKind.u64 32) v2)) fun v4 =>
 popO (SemP PG (binOp BinOp.shr T_uint32 t0 v4)) fun v5 =>
 popO (SemP PG (binOp BinOp.or T_uint32 v3 v5)) fun v6 =>
 R v6 h0
def math_bits_RotateLeft32.ann : Ann := { b := fun i => match i with  | _ => #[], ord := fun i => match i with  | _ => [], keep := fun i => match i with  | _ => [], n := 17 }
theorem math_bits_RotateLeft32.eq (t0 : Value) (t1 : Value) (h0 : PH) (R : Value → PH → Prop) : codeF PG math_bits_RotateLeft32.ann 200 (bodyOf Tryz.f100) (endH PG Tryz.f100 R) (fun t => (#[t0, t1] : Array Value).getD t undef) h0 = math_bits_RotateLeft32 t0 t1 h0 R := by kernel_rfl
theorem math_bits_RotateLeft32.call {t0 : Value} {t1 : Value} {h0 : PH} {R : Value → PH → Prop} (H : math_bits_RotateLeft32 t0 t1 h0 R) : CallsH PG id_math_bits_RotateLeft32 #[t0, t1] h0 R :=
  callsF_by math_bits_RotateLeft32.ann 200 mix Tryz.func100 (by kernel_rfl) (by kernel_rfl) (by kernel_rfl) (by kernel_rfl) (by simp [Tryz.ntmps100]) (math_bits_RotateLeft32.eq t0 t1 h0 R) H

def sha_Hash_Sum_b10 (R : Value → PH → Prop) (n9 : List Value → PH → Prop) (t0 : Value) (t3 : Value) (t4 : Value) (t5 : Value) (h0 : PH) : Prop :=
 popO (SemP PG (binOp BinOp.geq T_int t5 (Value.int IntKind.i64 0))) fun v11 =>
 condV v11
 (popO (SemP PG (nilS t0)) fun v12 =>
 popO (SemP PG (Instr.fieldAt T_sha_Hash v12 2)) fun v13 =>
 popO (SemE PG h0 (Instr.loadAt T_int v13)) fun v14 =>
 popO (SemP PG (convert T_int T_uint64 v14)) fun v15 =>
 popO (SemP PG (binOp BinOp.mul T_uint64 v15 (Value.int IntKind.u64 8))) fun v16 =>
 popO (SemP PG (binOp BinOp.shr T_uint64 v16 t5)) fun v17 =>
 popO (SemP PG (convert T_uint64 T_uint8 v17)) fun v18 =>
 CallsH PG id_strings_Builder_WriteByte #[t4, v18] h0 fun v19 h20 =>
 popO (SemP PG (binOp BinOp.sub T_int t5 (Value.int IntKind.i64 8))) fun v21 =>
 n9 [t0, t3, t4, v21] h20)
 (popO (SemP PG (nilS t0)) fun v22 =>
 popO (SemP PG (Instr.fieldAt T_sha_Hash v22 2)) fun v23 =>
 popO (SemE PG h0 (Instr.loadAt T_int v23)) fun v24 =>
 popO (SemP PG (binOp BinOp.rem T_int v24 (Value.int IntKind.i64 64))) fun v25 =>
 popO (SemP PG (binOp BinOp.sub T_int (Value.int IntKind.i64 119) v25)) fun v26 =>
 popO (SemP PG (binOp BinOp.rem T_int v26 (Value.int IntKind.i64 64))) fun v27 =>
 CallsH PG id_strings_Repeat #[(Value.string { data := #[0] }), v27] h0 fun v28 h29 =>
 popO (SemP PG (binOp BinOp.add T_string (Value.string { data := #[128] }) v28)) fun v30 =>
 CallsH PG id_strings_Builder_String #[t4] h29 fun v31 h32 =>
 popO (SemP PG (binOp BinOp.add T_string v30 v31)) fun v33 =>
 CallsH PG id_sha_Hash_Write #[t3, v33] h32 fun v34 h35 =>
 popO (SemP PG (Instr.fieldAt T_sha_Hash t3 0)) fun v36 =>
 CallsH PG id_sha_state_digest #[v36] h35 fun v37 h38 =>
 R v37 h38)
def sha_Hash_Sum (t0 : Value) (h0 : PH) (R : Value → PH → Prop) : Prop :=
 popO (SemP PG (nilS t0)) fun v1 =>
 popO (SemE PG h0 (Instr.loadAt T_sha_Hash v1)) fun v2 =>
 ∀ r3, h0 r3 = none → bindH (PH.set h0 r3 (.cells (zcells PG T_sha_Hash) T_sha_Hash)) fun h4 =>
 SemH PG (storeS T_sha_Hash (Value.pointer (some ⟨r3, 0, none⟩)) v2) h4 fun v5 h6 =>
 ∀ r7, h6 r7 = none → bindH (PH.set h6 r7 (.cells (zcells PG T_strings_Builder) T_strings_Builder)) fun h8 =>
 LoopL [0, 3, 4, 5] (fun n9 ρ h => sha_Hash_Sum_b10 R n9 (ρ 0) (ρ 3) (ρ 4) (ρ 5) h) [t0, (Value.pointer (some ⟨r3, 0, none⟩)), (Value.pointer (some ⟨r7, 0, none⟩)), (Value.int IntKind.i64 56)] h8
def sha_Hash_Sum.ann : Ann := { b := fun i => match i with  | _ => #[], ord := fun i => match i with  | _ => [], keep := fun i => match i with | 4 => [0, 3, 4, 5] | _ => [], n := 37 }
theorem sha_Hash_Sum.eq (t0 : Value) (h0 : PH) (R : Value → PH → Prop) : codeF PG sha_Hash_Sum.ann 200 (bodyOf Tryz.f68) (endH PG Tryz.f68 R) (fun t => (#[t0] : Array Value).getD t undef) h0 = sha_Hash_Sum t0 h0 R := by kernel_rfl
theorem sha_Hash_Sum.call {t0 : Value} {h0 : PH} {R : Value → PH → Prop} (H : sha_Hash_Sum t0 h0 R) : CallsH PG id_sha_Hash_Sum #[t0] h0 R :=
  callsF_by sha_Hash_Sum.ann 200 mix Tryz.func68 (by kernel_rfl) (by kernel_rfl) (by kernel_rfl) (by kernel_rfl) (by simp [Tryz.ntmps68]) (sha_Hash_Sum.eq t0 h0 R) H

def strings_Builder_WriteByte (t0 : Value) (t1 : Value) (h0 : PH) (R : Value → PH → Prop) : Prop :=
 CallsH PG id_strings_Builder_copyCheck #[t0] h0 fun v1 h2 =>
 popO (SemP PG (nilS t0)) fun v3 =>
 popO (SemP PG (Instr.fieldAt T_strings_Builder v3 1)) fun v4 =>
 popO (SemE PG h2 (Instr.loadAt T_sl_uint8 v4)) fun v5 =>
 popO (SemA PG (Instr.buildSlice T_sl_uint8 1 #[(0, t1)])) fun x7 => ∀ r6, h2 r6 = none → popO (SemP PG (x7.2 r6)) fun v8 => bindH (PH.set h2 r6 x7.1) fun h9 =>
 SemH PG (Builtin.append_ #[T_sl_uint8, T_sl_uint8] T_sl_uint8 #[v5, v8]) h9 fun v10 h11 =>
 popO (SemP PG (nilS t0)) fun v12 =>
 popO (SemP PG (Instr.fieldAt T_strings_Builder v12 1)) fun v13 =>
 SemH PG (storeS T_sl_uint8 v13 v10) h11 fun v14 h15 =>
 R Value.nilIface h15
def strings_Builder_WriteByte.ann : Ann := { b := fun i => match i with  | _ => #[], ord := fun i => match i with  | _ => [], keep := fun i => match i with  | _ => [], n := 17 }
theorem strings_Builder_WriteByte.eq (t0 : Value) (t1 : Value) (h0 : PH) (R : Value → PH → Prop) : codeF PG strings_Builder_WriteByte.ann 200 (bodyOf Tryz.f80) (endH PG Tryz.f80 R) (fun t => (#[t0, t1] : Array Value).getD t undef) h0 = strings_Builder_WriteByte t0 t1 h0 R := by kernel_rfl
theorem strings_Builder_WriteByte.call {t0 : Value} {t1 : Value} {h0 : PH} {R : Value → PH → Prop} (H : strings_Builder_WriteByte t0 t1 h0 R) : CallsH PG id_strings_Builder_WriteByte #[t0, t1] h0 R :=
  callsF_by strings_Builder_WriteByte.ann 200 mix Tryz.func80 (by kernel_rfl) (by kernel_rfl) (by kernel_rfl) (by kernel_rfl) (by simp [Tryz.ntmps80]) (strings_Builder_WriteByte.eq t0 t1 h0 R) H

def strings_Builder_copyCheck (t0 : Value) (h0 : PH) (R : Value → PH → Prop) : Prop :=
 popO (SemP PG (nilS t0)) fun v1 =>
 popO (SemP PG (Instr.fieldAt T_strings_Builder v1 0)) fun v2 =>
 popO (SemE PG h0 (Instr.loadAt T_p_strings_Builder v2)) fun v3 =>
 popO (SemE PG h0 (binS BinOp.eql T_p_strings_Builder (.tmp 5) (.const (Value.pointer none)) v3 (Value.pointer none))) fun v4 =>
 condV v4
 (SemH PG (convert T_p_strings_Builder T_unsafe_Pointer t0) h0 fun v5 h6 =>
 CallsH PG id_internal_abi_NoEscape #[v5] h6 fun v7 h8 =>
 SemH PG (convert T_unsafe_Pointer T_p_strings_Builder v7) h8 fun v9 h10 =>
 popO (SemP PG (nilS t0)) fun v11 =>
 popO (SemP PG (Instr.fieldAt T_strings_Builder v11 0)) fun v12 =>
 SemH PG (storeS T_p_strings_Builder v12 v9) h10 fun v13 h14 =>
 R (Value.tuple #[]) h14)
 (popO (SemP PG (nilS t0)) fun v15 =>
 popO (SemP PG (Instr.fieldAt T_strings_Builder v15 0)) fun v16 =>
 popO (SemE PG h0 (Instr.loadAt T_p_strings_Builder v16)) fun v17 =>
 popO (SemE PG h0 (binS BinOp.neq T_p_strings_Builder (.tmp 17) (.tmp 18) v17 t0)) fun v18 =>
 condV v18
 (False)
 (R (Value.tuple #[]) h0))
def strings_Builder_copyCheck.ann : Ann := { b := fun i => match i with  | _ => #[], ord := fun i => match i with  | _ => [], keep := fun i => match i with  | _ => [], n := 20 }
theorem strings_Builder_copyCheck.eq (t0 : Value) (h0 : PH) (R : Value → PH → Prop) : codeF PG strings_Builder_copyCheck.ann 200 (bodyOf Tryz.f93) (endH PG Tryz.f93 R) (fun t => (#[t0] : Array Value).getD t undef) h0 = strings_Builder_copyCheck t0 h0 R := by kernel_rfl
theorem strings_Builder_copyCheck.call {t0 : Value} {h0 : PH} {R : Value → PH → Prop} (H : strings_Builder_copyCheck t0 h0 R) : CallsH PG id_strings_Builder_copyCheck #[t0] h0 R :=
  callsF_by strings_Builder_copyCheck.ann 200 mix Tryz.func93 (by kernel_rfl) (by kernel_rfl) (by kernel_rfl) (by kernel_rfl) (by simp [Tryz.ntmps93]) (strings_Builder_copyCheck.eq t0 h0 R) H

def strings_Repeat_b102 (R : Value → PH → Prop) (n101 : List Value → PH → Prop) (t7 : Value) (t8 : Value) (t9 : Value) (h0 : PH) : Prop :=
 CallsH PG id_strings_Builder_Len #[t9] h0 fun v103 h104 =>
 popO (SemP PG (binOp BinOp.lss T_int v103 t7)) fun v105 =>
 condV v105
 (CallsH PG id_strings_Builder_Len #[t9] h104 fun v106 h107 =>
 popO (SemP PG (binOp BinOp.sub T_int t7 v106)) fun v108 =>
 CallsH PG id_strings_Builder_Len #[t9] h107 fun v109 h110 =>
 popO (SemP PG (Builtin.min_ #[T_int, T_int, T_int] T_int #[v108, v109, t8])) fun v111 =>
 CallsH PG id_strings_Builder_String #[t9] h110 fun v112 h113 =>
 popO (SemP PG (Instr.sliceAt T_string v112 none (some v111) none)) fun v114 =>
 CallsH PG id_strings_Builder_WriteString #[t9, v114] h113 fun v115 h116 =>
 n101 [t7, t8, t9] h116)
 (CallsH PG id_strings_Builder_String #[t9] h104 fun v117 h118 =>
 R v117 h118)
def strings_Repeat_k94 (R : Value → PH → Prop) (t0 : Value) (t7 : Value) (t8 : Value) (h0 : PH) : Prop :=
 ∀ r95, h0 r95 = none → bindH (PH.set h0 r95 (.cells (zcells PG T_strings_Builder) T_strings_Builder)) fun h96 =>
 CallsH PG id_strings_Builder_Grow #[(Value.pointer (some ⟨r95, 0, none⟩)), t7] h96 fun v97 h98 =>
 CallsH PG id_strings_Builder_WriteString #[(Value.pointer (some ⟨r95, 0, none⟩)), t0] h98 fun v99 h100 =>
 LoopL [7, 8, 9] (fun n101 ρ h => strings_Repeat_b102 R n101 (ρ 7) (ρ 8) (ρ 9) h) [t7, t8, (Value.pointer (some ⟨r95, 0, none⟩))] h100
def strings_Repeat_k86 (R : Value → PH → Prop) (t0 : Value) (t7 : Value) (h0 : PH) : Prop :=
 popO (SemP PG (binOp BinOp.gtr T_int t7 (Value.int IntKind.i64 8192))) fun v87 =>
 condV v87
 (popO (SemP PG (Builtin.len_ #[T_string] T_int #[t0])) fun v88 =>
 popO (SemP PG (binOp BinOp.quo T_int (Value.int IntKind.i64 8192) v88)) fun v89 =>
 popO (SemP PG (Builtin.len_ #[T_string] T_int #[t0])) fun v90 =>
 popO (SemP PG (binOp BinOp.mul T_int v89 v90)) fun v91 =>
 popO (SemE PG h0 (binS BinOp.eql T_int (.tmp 103) (.const (Value.int IntKind.i64 0)) v91 (Value.int IntKind.i64 0))) fun v92 =>
 condV v92
 (popO (SemP PG (Builtin.len_ #[T_string] T_int #[t0])) fun v93 =>
 strings_Repeat_k94 R t0 t7 v93 h0)
 (strings_Repeat_k94 R t0 t7 v91 h0))
 (strings_Repeat_k94 R t0 t7 t7 h0)
def strings_Repeat_k85 (R : Value → PH → Prop) (t0 : Value) (t7 : Value) (h0 : PH) : Prop :=
 strings_Repeat_k86 R t0 t7 h0
def strings_Repeat_k29 (R : Value → PH → Prop) (t0 : Value) (t7 : Value) (t43 : Value) (h0 : PH) : Prop :=
 condV t43
 (popO (SemP PG (binOp BinOp.leq T_int t7 (Value.int IntKind.i64 128))) fun v30 =>
 gopV (yV v30) true (fun k33 => k33 t0 h0) h0 fun v31 h32 =>
 gopV (yV v30) true (fun k36 => CallsH PG id_strings_HasPrefix #[(Value.string { data := lit0 }), v31] h32 fun v37 h38 => k36 v37 h38) h32 fun v34 h35 =>
 popO (pickV v30 v34 (Value.bool false)) fun v39 =>
 condV v39
 (popO (SemP PG (Instr.sliceAt T_string (Value.string { data := lit0 }) none (some t7) none)) fun v40 =>
 R v40 h35)
 (popO (SemP PG (binOp BinOp.leq T_int t7 (Value.int IntKind.i64 128))) fun v41 =>
 gopV (yV v41) true (fun k44 => k44 t0 h35) h35 fun v42 h43 =>
 gopV (yV v41) true (fun k47 => CallsH PG id_strings_HasPrefix #[(Value.string { data := lit1 }), v42] h43 fun v48 h49 => k47 v48 h49) h43 fun v45 h46 =>
 popO (pickV v41 v45 (Value.bool false)) fun v50 =>
 condV v50
 (popO (SemP PG (Instr.sliceAt T_string (Value.string { data := lit1 }) none (some t7) none)) fun v51 =>
 R v51 h46)
 (popO (SemP PG (binOp BinOp.leq T_int t7 (Value.int IntKind.i64 64))) fun v52 =>
 gopV (yV v52) true (fun k55 => k55 t0 h46) h46 fun v53 h54 =>
 gopV (yV v52) true (fun k58 => CallsH PG id_strings_HasPrefix #[(Value.string { data := #[48, 48, 48, 48, 48, 48, 48, 48, 48, 48, 48, 48, 48, 48, 48, 48, 48, 48, 48, 48, 48, 48, 48, 48, 48, 48, 48, 48, 48, 48, 48, 48, 48, 48, 48, 48, 48, 48, 48, 48, 48, 48, 48, 48, 48, 48, 48, 48, 48, 48, 48, 48, 48, 48, 48, 48, 48, 48, 48, 48, 48, 48, 48, 48] }), v53] h54 fun v59 h60 => k58 v59 h60) h54 fun v56 h57 =>
 popO (pickV v52 v56 (Value.bool false)) fun v61 =>
 condV v61
 (popO (SemP PG (Instr.sliceAt T_string (Value.string { data := #[48, 48, 48, 48, 48, 48, 48, 48, 48, 48, 48, 48, 48, 48, 48, 48, 48, 48, 48, 48, 48, 48, 48, 48, 48, 48, 48, 48, 48, 48, 48, 48, 48, 48, 48, 48, 48, 48, 48, 48, 48, 48, 48, 48, 48, 48, 48, 48, 48, 48, 48, 48, 48, 48, 48, 48, 48, 48, 48, 48, 48, 48, 48, 48] }) none (some t7) none)) fun v62 =>
 R v62 h57)
 (popO (SemP PG (binOp BinOp.leq T_int t7 (Value.int IntKind.i64 128))) fun v63 =>
 gopV (yV v63) true (fun k66 => k66 t0 h57) h57 fun v64 h65 =>
 gopV (yV v63) true (fun k69 => CallsH PG id_strings_HasPrefix #[(Value.string { data := lit2 }), v64] h65 fun v70 h71 => k69 v70 h71) h65 fun v67 h68 =>
 popO (pickV v63 v67 (Value.bool false)) fun v72 =>
 condV v72
 (popO (SemP PG (Instr.sliceAt T_string (Value.string { data := lit2 }) none (some t7) none)) fun v73 =>
 R v73 h68)
 (popO (SemP PG (binOp BinOp.leq T_int t7 (Value.int IntKind.i64 64))) fun v74 =>
 gopV (yV v74) true (fun k77 => k77 t0 h68) h68 fun v75 h76 =>
 gopV (yV v74) true (fun k80 => CallsH PG id_strings_HasPrefix #[(Value.string { data := #[9, 9, 9, 9, 9, 9, 9, 9, 9, 9, 9, 9, 9, 9, 9, 9, 9, 9, 9, 9, 9, 9, 9, 9, 9, 9, 9, 9, 9, 9, 9, 9, 9, 9, 9, 9, 9, 9, 9, 9, 9, 9, 9, 9, 9, 9, 9, 9, 9, 9, 9, 9, 9, 9, 9, 9, 9, 9, 9, 9, 9, 9, 9, 9] }), v75] h76 fun v81 h82 => k80 v81 h82) h76 fun v78 h79 =>
 popO (pickV v74 v78 (Value.bool false)) fun v83 =>
 condV v83
 (popO (SemP PG (Instr.sliceAt T_string (Value.string { data := #[9, 9, 9, 9, 9, 9, 9, 9, 9, 9, 9, 9, 9, 9, 9, 9, 9, 9, 9, 9, 9, 9, 9, 9, 9, 9, 9, 9, 9, 9, 9, 9, 9, 9, 9, 9, 9, 9, 9, 9, 9, 9, 9, 9, 9, 9, 9, 9, 9, 9, 9, 9, 9, 9, 9, 9, 9, 9, 9, 9, 9, 9, 9, 9] }) none (some t7) none)) fun v84 =>
 R v84 h79)
 (strings_Repeat_k85 R t0 t7 h79))))))
 (strings_Repeat_k85 R t0 t7 h0)
def strings_Repeat_k23 (R : Value → PH → Prop) (t0 : Value) (t6 : Value) (h0 : PH) : Prop :=
 popO (SemP PG (convert T_uint T_int t6)) fun v24 =>
 popO (SemP PG (Builtin.len_ #[T_string] T_int #[t0])) fun v25 =>
 popO (SemE PG h0 (binS BinOp.eql T_int (.tmp 39) (.const (Value.int IntKind.i64 0)) v25 (Value.int IntKind.i64 0))) fun v26 =>
 condV v26
 (R (Value.string { data := #[] }) h0)
 (popO (SemP PG (Instr.index T_string t0 (Value.int IntKind.i64 0))) fun v27 =>
 popO (SemE PG h0 (binS BinOp.eql T_uint8 (.tmp 42) (.const (Value.int IntKind.u8 32)) v27 (Value.int IntKind.u8 32))) fun v28 =>
 condV v28
 (strings_Repeat_k29 R t0 v24 v28 h0)
 (popO (SemE PG h0 (binS BinOp.eql T_uint8 (.tmp 42) (.const (Value.int IntKind.u8 45)) v27 (Value.int IntKind.u8 45))) fun v119 =>
 condV v119
 (strings_Repeat_k29 R t0 v24 v119 h0)
 (popO (SemE PG h0 (binS BinOp.eql T_uint8 (.tmp 42) (.const (Value.int IntKind.u8 48)) v27 (Value.int IntKind.u8 48))) fun v120 =>
 condV v120
 (strings_Repeat_k29 R t0 v24 v120 h0)
 (popO (SemE PG h0 (binS BinOp.eql T_uint8 (.tmp 42) (.const (Value.int IntKind.u8 61)) v27 (Value.int IntKind.u8 61))) fun v121 =>
 condV v121
 (strings_Repeat_k29 R t0 v24 v121 h0)
 (popO (SemE PG h0 (binS BinOp.eql T_uint8 (.tmp 42) (.const (Value.int IntKind.u8 9)) v27 (Value.int IntKind.u8 9))) fun v122 =>
 strings_Repeat_k29 R t0 v24 v122 h0)))))
def strings_Repeat_k5 (R : Value → PH → Prop) (t0 : Value) (t1 : Value) (h0 : PH) : Prop :=
 popO (SemP PG (Builtin.len_ #[T_string] T_int #[t0])) fun v6 =>
 popO (SemP PG (convert T_int T_uint v6)) fun v7 =>
 popO (SemP PG (convert T_int T_uint t1)) fun v8 =>
 CallsH PG id_math_bits_Mul #[v7, v8] h0 fun v9 h10 =>
 popO (SemP PG (Instr.extract v9 0)) fun v11 =>
 popO (SemP PG (Instr.extract v9 1)) fun v12 =>
 popO (SemP PG (binOp BinOp.gtr T_uint v11 (Value.int IntKind.u64 0))) fun v13 =>
 gopV (yV v13) false (fun k16 => k16 v12 h10) h10 fun v14 h15 =>
 gopV (yV v13) false (fun k19 => popO (SemP PG (binOp BinOp.gtr T_uint v14 (Value.int IntKind.u64 9223372036854775807))) fun v20 => k19 v20 h15) h15 fun v17 h18 =>
 popO (pickV v13 (Value.bool true) v17) fun v21 =>
 condV v21
 (popO (SemP PG (Instr.makeInterface T_string (Value.string { data := #[115, 116, 114, 105, 110, 103, 115, 58, 32, 82, 101, 112, 101, 97, 116, 32, 111, 117, 116, 112, 117, 116, 32, 108, 101, 110, 103, 116, 104, 32, 111, 118, 101, 114, 102, 108, 111, 119] }))) fun v22 =>
 False)
 (strings_Repeat_k23 R t0 v12 h18)
def strings_Repeat (t0 : Value) (t1 : Value) (h0 : PH) (R : Value → PH → Prop) : Prop :=
 popO (SemE PG h0 (binS BinOp.eql T_int (.tmp 11) (.const (Value.int IntKind.i64 0)) t1 (Value.int IntKind.i64 0))) fun v1 =>
 condV v1
 (R (Value.string { data := #[] }) h0)
 (popO (SemE PG h0 (binS BinOp.eql T_int (.tmp 11) (.const (Value.int IntKind.i64 1)) t1 (Value.int IntKind.i64 1))) fun v2 =>
 condV v2
 (R t0 h0)
 (popO (SemP PG (binOp BinOp.lss T_int t1 (Value.int IntKind.i64 0))) fun v3 =>
 condV v3
 (popO (SemP PG (Instr.makeInterface T_string (Value.string { data := #[115, 116, 114, 105, 110, 103, 115, 58, 32, 110, 101, 103, 97, 116, 105, 118, 101, 32, 82, 101, 112, 101, 97, 116, 32, 99, 111, 117, 110, 116] }))) fun v4 =>
 False)
 (strings_Repeat_k5 R t0 t1 h0)))
def strings_Repeat.ann : Ann := { b := fun i => match i with  | _ => #[], ord := fun i => match i with  | _ => [], keep := fun i => match i with | 38 => [7, 8, 9] | _ => [], n := 125 }
theorem strings_Repeat.eq (t0 : Value) (t1 : Value) (h0 : PH) (R : Value → PH → Prop) : codeF PG strings_Repeat.ann 200 (bodyOf Tryz.f81) (endH PG Tryz.f81 R) (fun t => (#[t0, t1] : Array Value).getD t undef) h0 = strings_Repeat t0 t1 h0 R := by kernel_rfl
theorem strings_Repeat.call {t0 : Value} {t1 : Value} {h0 : PH} {R : Value → PH → Prop} (H : strings_Repeat t0 t1 h0 R) : CallsH PG id_strings_Repeat #[t0, t1] h0 R :=
  callsF_by strings_Repeat.ann 200 mix Tryz.func81 (by kernel_rfl) (by kernel_rfl) (by kernel_rfl) (by kernel_rfl) (by simp [Tryz.ntmps81]) (strings_Repeat.eq t0 t1 h0 R) H

def strings_Builder_String (t0 : Value) (h0 : PH) (R : Value → PH → Prop) : Prop :=
 popO (SemP PG (nilS t0)) fun v1 =>
 popO (SemP PG (Instr.fieldAt T_strings_Builder v1 1)) fun v2 =>
 popO (SemE PG h0 (Instr.loadAt T_sl_uint8 v2)) fun v3 =>
 popO (SemP PG (nilS t0)) fun v4 =>
 popO (SemP PG (Instr.fieldAt T_strings_Builder v4 1)) fun v5 =>
 popO (SemE PG h0 (Instr.loadAt T_sl_uint8 v5)) fun v6 =>
 popO (SemP PG (Builtin.len_ #[T_sl_uint8] T_int #[v6])) fun v7 =>
 SemH PG (Builtin.unsafeSliceData_ #[T_sl_uint8] T_p_uint8 #[v3]) h0 fun v8 h9 =>
 SemE PG h9 (Instr.loadAt T_sl_uint8 v5) = some v6 ∧ (SemH PG (Builtin.unsafeString_ #[T_p_uint8, T_int] T_string #[v8, v7]) h9 fun v10 h11 =>
 (R v10 h11))
def strings_Builder_String.ann : Ann := { b := fun i => match i with | 1 => #[0, 1, 3, 7, 15, 0, 32, 96, 224, 480, 1023, 2047] | _ => #[], ord := fun i => match i with | 1 => [0, 1, 2, 3, 5, 6, 7, 8, 9, 4, 10, 11] | _ => [], keep := fun i => match i with  | _ => [], n := 14 }
theorem strings_Builder_String.eq (t0 : Value) (h0 : PH) (R : Value → PH → Prop) : codeF PG strings_Builder_String.ann 200 (bodyOf Tryz.f82) (endH PG Tryz.f82 R) (fun t => (#[t0] : Array Value).getD t undef) h0 = strings_Builder_String t0 h0 R := by kernel_rfl
theorem strings_Builder_String.call {t0 : Value} {h0 : PH} {R : Value → PH → Prop} (H : strings_Builder_String t0 h0 R) : CallsH PG id_strings_Builder_String #[t0] h0 R :=
  callsF_by strings_Builder_String.ann 200 mix Tryz.func82 (by kernel_rfl) (by kernel_rfl) (by kernel_rfl) (by kernel_rfl) (by simp [Tryz.ntmps82]) (strings_Builder_String.eq t0 h0 R) H

def math_bits_Mul (t0 : Value) (t1 : Value) (h0 : PH) (R : Value → PH → Prop) : Prop :=
 condV (Value.bool false)
 (popO (SemP PG (convert T_uint T_uint32 t0)) fun v1 =>
 popO (SemP PG (convert T_uint T_uint32 t1)) fun v2 =>
 CallsH PG id_math_bits_Mul32 #[v1, v2] h0 fun v3 h4 =>
 popO (SemP PG (Instr.extract v3 0)) fun v5 =>
 popO (SemP PG (Instr.extract v3 1)) fun v6 =>
 popO (SemP PG (convert T_uint32 T_uint v5)) fun v7 =>
 popO (SemP PG (convert T_uint32 T_uint v6)) fun v8 =>
 R (Value.tuple #[v7, v8]) h4)
 (CallsH PG id_math_bits_Mul64 #[t0, t1] h0 fun v9 h10 =>
 popO (SemP PG (Instr.extract v9 0)) fun v11 =>
 popO (SemP PG (Instr.extract v9 1)) fun v12 =>
 R (Value.tuple #[v11, v12]) h10)
def math_bits_Mul.ann : Ann := { b := fun i => match i with  | _ => #[], ord := fun i => match i with  | _ => [], keep := fun i => match i with  | _ => [], n := 30 }
theorem math_bits_Mul.eq (t0 : Value) (t1 : Value) (h0 : PH) (R : Value → PH → Prop) : codeF PG math_bits_Mul.ann 200 (bodyOf Tryz.f94) (endH PG Tryz.f94 R) (fun t => (#[t0, t1] : Array Value).getD t undef) h0 = math_bits_Mul t0 t1 h0 R := by kernel_rfl
theorem math_bits_Mul.call {t0 : Value} {t1 : Value} {h0 : PH} {R : Value → PH → Prop} (H : math_bits_Mul t0 t1 h0 R) : CallsH PG id_math_bits_Mul #[t0, t1] h0 R :=
  callsF_by math_bits_Mul.ann 200 mix Tryz.func94 (by kernel_rfl) (by kernel_rfl) (by kernel_rfl) (by kernel_rfl) (by simp [Tryz.ntmps94]) (math_bits_Mul.eq t0 t1 h0 R) H

def math_bits_Mul32 (t0 : Value) (t1 : Value) (h0 : PH) (R : Value → PH → Prop) : Prop :=
 popO (SemP PG (convert T_uint32 T_uint64 t0)) fun v1 =>
 popO (SemP PG (convert T_uint32 T_uint64 t1)) fun v2 =>
 popO (SemP PG (binOp BinOp.mul T_uint64 v1 v2)) fun v3 =>
 popO (SemP PG (binOp BinOp.shr T_uint64 v3 (Value.int IntKind.u64 32))) fun v4 =>
 popO (SemP PG (convert T_uint64 T_uint32 v4)) fun v5 =>
 popO (SemP PG (convert T_uint64 T_uint32 v3)) fun v6 =>
 R (Value.tuple #[v5, v6]) h0
def math_bits_Mul32.ann : Ann := { b := fun i => match i with  | _ => #[], ord := fun i => match i with  | _ => [], keep := fun i => match i with  | _ => [], n := 17 }
theorem math_bits_Mul32.eq (t0 : Value) (t1 : Value) (h0 : PH) (R : Value → PH → Prop) : codeF PG math_bits_Mul32.ann 200 (bodyOf Tryz.f102) (endH PG Tryz.f102 R) (fun t => (#[t0, t1] : Array Value).getD t undef) h0 = math_bits_Mul32 t0 t1 h0 R := by kernel_rfl
theorem math_bits_Mul32.call {t0 : Value} {t1 : Value} {h0 : PH} {R : Value → PH → Prop} (H : math_bits_Mul32 t0 t1 h0 R) : CallsH PG id_math_bits_Mul32 #[t0, t1] h0 R :=
  callsF_by math_bits_Mul32.ann 200 mix Tryz.func102 (by kernel_rfl) (by kernel_rfl) (by kernel_rfl) (by kernel_rfl) (by simp [Tryz.ntmps102]) (math_bits_Mul32.eq t0 t1 h0 R) H

def math_bits_Mul64 (t0 : Value) (t1 : Value) (h0 : PH) (R : Value → PH → Prop) : Prop :=
 popO (SemP PG (binOp BinOp.and T_uint64 t0 (Value.int IntKind.u64 4294967295))) fun v1 =>
 popO (SemP PG (binOp BinOp.shr T_uint64 t0 (Value.int IntKind.u64 32))) fun v2 =>
 popO (SemP PG (binOp BinOp.and T_uint64 t1 (Value.int IntKind.u64 4294967295))) fun v3 =>
 popO (SemP PG (binOp BinOp.shr T_uint64 t1 (Value.int IntKind.u64 32))) fun v4 =>
 popO (SemP PG (binOp BinOp.mul T_uint64 v1 v3)) fun v5 =>
 popO (SemP PG (binOp BinOp.mul T_uint64 v2 v3)) fun v6 =>
 popO (SemP PG (binOp BinOp.shr T_uint64 v5 (Value.int IntKind.u64 32))) fun v7 =>
 popO (SemP PG (binOp BinOp.add T_uint64 v6 v7)) fun v8 =>
 popO (SemP PG (binOp BinOp.and T_uint64 v8 (Value.int IntKind.u64 4294967295))) fun v9 =>
 popO (SemP PG (binOp BinOp.shr T_uint64 v8 (Value.int IntKind.u64 32))) fun v10 =>
 popO (SemP PG (binOp BinOp.mul T_uint64 v1 v4)) fun v11 =>
 popO (SemP PG (binOp BinOp.add T_uint64 v9 v11)) fun v12 =>
 popO (SemP PG (binOp BinOp.mul T_uint64 v2 v4)) fun v13 =>
 popO (SemP PG (binOp BinOp.add T_uint64 v13 v10)) fun v14 =>
 popO (SemP PG (binOp BinOp.shr T_uint64 v12 (Value.int IntKind.u64 32))) fun v15 =>
 popO (SemP PG (binOp BinOp.add T_uint64 v14 v15)) fun v16 =>
 popO (SemP PG (binOp BinOp.mul T_uint64 t0 t1)) fun v17 =>
 R (Value.tuple #[v16, v17]) h0
def math_bits_Mul64.ann : Ann := { b := fun i => match i with  | _ => #[], ord := fun i => match i with  | _ => [], keep := fun i => match i with  | _ => [], n := 51 }
theorem math_bits_Mul64.eq (t0 : Value) (t1 : Value) (h0 : PH) (R : Value → PH → Prop) : codeF PG math_bits_Mul64.ann 200 (bodyOf Tryz.f103) (endH PG Tryz.f103 R) (fun t => (#[t0, t1] : Array Value).getD t undef) h0 = math_bits_Mul64 t0 t1 h0 R := by kernel_rfl
theorem math_bits_Mul64.call {t0 : Value} {t1 : Value} {h0 : PH} {R : Value → PH → Prop} (H : math_bits_Mul64 t0 t1 h0 R) : CallsH PG id_math_bits_Mul64 #[t0, t1] h0 R :=
  callsF_by math_bits_Mul64.ann 200 mix Tryz.func103 (by kernel_rfl) (by kernel_rfl) (by kernel_rfl) (by kernel_rfl) (by simp [Tryz.ntmps103]) (math_bits_Mul64.eq t0 t1 h0 R) H

def strings_HasPrefix (t0 : Value) (t1 : Value) (h0 : PH) (R : Value → PH → Prop) : Prop :=
 CallsH PG id_internal_stringslite_HasPrefix #[t0, t1] h0 fun v1 h2 =>
 R v1 h2
def strings_HasPrefix.ann : Ann := { b := fun i => match i with  | _ => #[], ord := fun i => match i with  | _ => [], keep := fun i => match i with  | _ => [], n := 8 }
theorem strings_HasPrefix.eq (t0 : Value) (t1 : Value) (h0 : PH) (R : Value → PH → Prop) : codeF PG strings_HasPrefix.ann 200 (bodyOf Tryz.f95) (endH PG Tryz.f95 R) (fun t => (#[t0, t1] : Array Value).getD t undef) h0 = strings_HasPrefix t0 t1 h0 R := by kernel_rfl
theorem strings_HasPrefix.call {t0 : Value} {t1 : Value} {h0 : PH} {R : Value → PH → Prop} (H : strings_HasPrefix t0 t1 h0 R) : CallsH PG id_strings_HasPrefix #[t0, t1] h0 R :=
  callsF_by strings_HasPrefix.ann 200 mix Tryz.func95 (by kernel_rfl) (by kernel_rfl) (by kernel_rfl) (by kernel_rfl) (by simp [Tryz.ntmps95]) (strings_HasPrefix.eq t0 t1 h0 R) H

def internal_stringslite_HasPrefix (t0 : Value) (t1 : Value) (h0 : PH) (R : Value → PH → Prop) : Prop :=
 popO (SemP PG (Builtin.len_ #[T_string] T_int #[t0])) fun v1 =>
 popO (SemP PG (Builtin.len_ #[T_string] T_int #[t1])) fun v2 =>
 popO (SemP PG (binOp BinOp.geq T_int v1 v2)) fun v3 =>
 gopV (yV v3) true (fun k6 => k6 t0 h0) h0 fun v4 h5 =>
 gopV (yV v3) true (fun k9 => k9 t1 h5) h5 fun v7 h8 =>
 gopV (yV v3) true (fun k12 => popO (SemP PG (Builtin.len_ #[T_string] T_int #[v7])) fun v13 => k12 v13 h8) h8 fun v10 h11 =>
 gopV (yV v3) true (fun k16 => popO (SemP PG (Instr.sliceAt T_string v4 none (some v10) none)) fun v17 => k16 v17 h11) h11 fun v14 h15 =>
 gopV (yV v3) true (fun k20 => k20 t1 h15) h15 fun v18 h19 =>
 gopV (yV v3) true (fun k23 => popO (SemE PG h19 (binS BinOp.eql T_string (.tmp 14) (.tmp 15) v14 v18)) fun v24 => k23 v24 h19) h19 fun v21 h22 =>
 popO (pickV v3 v21 (Value.bool false)) fun v25 =>
 R v25 h22
def internal_stringslite_HasPrefix.ann : Ann := { b := fun i => match i with  | _ => #[], ord := fun i => match i with  | _ => [], keep := fun i => match i with  | _ => [], n := 18 }
theorem internal_stringslite_HasPrefix.eq (t0 : Value) (t1 : Value) (h0 : PH) (R : Value → PH → Prop) : codeF PG internal_stringslite_HasPrefix.ann 200 (bodyOf Tryz.f104) (endH PG Tryz.f104 R) (fun t => (#[t0, t1] : Array Value).getD t undef) h0 = internal_stringslite_HasPrefix t0 t1 h0 R := by kernel_rfl
theorem internal_stringslite_HasPrefix.call {t0 : Value} {t1 : Value} {h0 : PH} {R : Value → PH → Prop} (H : internal_stringslite_HasPrefix t0 t1 h0 R) : CallsH PG id_internal_stringslite_HasPrefix #[t0, t1] h0 R :=
  callsF_by internal_stringslite_HasPrefix.ann 200 mix Tryz.func104 (by kernel_rfl) (by kernel_rfl) (by kernel_rfl) (by kernel_rfl) (by simp [Tryz.ntmps104]) (internal_stringslite_HasPrefix.eq t0 t1 h0 R) H

def strings_Builder_Grow_k5 (R : Value → PH → Prop) (t0 : Value) (t1 : Value) (h0 : PH) : Prop :=
 popO (SemP PG (nilS t0)) fun v6 =>
 popO (SemP PG (Instr.fieldAt T_strings_Builder v6 1)) fun v7 =>
 popO (SemE PG h0 (Instr.loadAt T_sl_uint8 v7)) fun v8 =>
 popO (SemP PG (Builtin.cap_ #[T_sl_uint8] T_int #[v8])) fun v9 =>
 popO (SemP PG (nilS t0)) fun v10 =>
 popO (SemP PG (Instr.fieldAt T_strings_Builder v10 1)) fun v11 =>
 popO (SemE PG h0 (Instr.loadAt T_sl_uint8 v11)) fun v12 =>
 popO (SemP PG (Builtin.len_ #[T_sl_uint8] T_int #[v12])) fun v13 =>
 popO (SemP PG (binOp BinOp.sub T_int v9 v13)) fun v14 =>
 popO (SemP PG (binOp BinOp.lss T_int v14 t1)) fun v15 =>
 condV v15
 (CallsH PG id_strings_Builder_grow #[t0, t1] h0 fun v16 h17 =>
 R (Value.tuple #[]) h17)
 (R (Value.tuple #[]) h0)
def strings_Builder_Grow (t0 : Value) (t1 : Value) (h0 : PH) (R : Value → PH → Prop) : Prop :=
 CallsH PG id_strings_Builder_copyCheck #[t0] h0 fun v1 h2 =>
 popO (SemP PG (binOp BinOp.lss T_int t1 (Value.int IntKind.i64 0))) fun v3 =>
 condV v3
 (popO (SemP PG (Instr.makeInterface T_string (Value.string { data := #[115, 116, 114, 105, 110, 103, 115, 46, 66, 117, 105, 108, 100, 101, 114, 46, 71, 114, 111, 119, 58, 32, 110, 101, 103, 97, 116, 105, 118, 101, 32, 99, 111, 117, 110, 116] }))) fun v4 =>
 False)
 (strings_Builder_Grow_k5 R t0 t1 h2)
def strings_Builder_Grow.ann : Ann := { b := fun i => match i with | 3 => #[0, 1, 3, 7, 15, 0, 32, 96, 224, 480, 1023, 0, 4095] | _ => #[], ord := fun i => match i with | 3 => [0, 1, 2, 3, 4, 5, 6, 7, 8, 9, 10, 11, 12] | _ => [], keep := fun i => match i with  | _ => [], n := 25 }
theorem strings_Builder_Grow.eq (t0 : Value) (t1 : Value) (h0 : PH) (R : Value → PH → Prop) : codeF PG strings_Builder_Grow.ann 200 (bodyOf Tryz.f96) (endH PG Tryz.f96 R) (fun t => (#[t0, t1] : Array Value).getD t undef) h0 = strings_Builder_Grow t0 t1 h0 R := by kernel_rfl
theorem strings_Builder_Grow.call {t0 : Value} {t1 : Value} {h0 : PH} {R : Value → PH → Prop} (H : strings_Builder_Grow t0 t1 h0 R) : CallsH PG id_strings_Builder_Grow #[t0, t1] h0 R :=
  callsF_by strings_Builder_Grow.ann 200 mix Tryz.func96 (by kernel_rfl) (by kernel_rfl) (by kernel_rfl) (by kernel_rfl) (by simp [Tryz.ntmps96]) (strings_Builder_Grow.eq t0 t1 h0 R) H

def strings_Builder_grow (t0 : Value) (t1 : Value) (h0 : PH) (R : Value → PH → Prop) : Prop :=
 popO (SemP PG (nilS t0)) fun v1 =>
 popO (SemP PG (Instr.fieldAt T_strings_Builder v1 1)) fun v2 =>
 popO (SemE PG h0 (Instr.loadAt T_sl_uint8 v2)) fun v3 =>
 popO (SemP PG (Builtin.cap_ #[T_sl_uint8] T_int #[v3])) fun v4 =>
 popO (SemP PG (binOp BinOp.mul T_int (Value.int IntKind.i64 2) v4)) fun v5 =>
 popO (SemP PG (binOp BinOp.add T_int v5 t1)) fun v6 =>
 popO (SemP PG (nilS t0)) fun v7 =>
 popO (SemP PG (Instr.fieldAt T_strings_Builder v7 1)) fun v8 =>
 popO (SemE PG h0 (Instr.loadAt T_sl_uint8 v8)) fun v9 =>
 popO (SemP PG (Builtin.len_ #[T_sl_uint8] T_int #[v9])) fun v10 =>
 CallsH PG id_internal_bytealg_MakeNoZero #[v6] h0 fun v11 h12 =>
 SemE PG h12 (Instr.loadAt T_sl_uint8 v8) = some v9 ∧ (popO (SemP PG (Instr.sliceAt T_sl_uint8 v11 none (some v10) none)) fun v13 =>
 popO (SemP PG (nilS t0)) fun v14 =>
 popO (SemP PG (Instr.fieldAt T_strings_Builder v14 1)) fun v15 =>
 popO (SemE PG h12 (Instr.loadAt T_sl_uint8 v15)) fun v16 =>
 SemH PG (Builtin.copy_ #[T_sl_uint8, T_sl_uint8] T_int #[v13, v16]) h12 fun v17 h18 =>
 popO (SemP PG (nilS t0)) fun v19 =>
 popO (SemP PG (Instr.fieldAt T_strings_Builder v19 1)) fun v20 =>
 SemH PG (storeS T_sl_uint8 v20 v13) h18 fun v21 h22 =>
 R (Value.tuple #[]) h22)
def strings_Builder_grow.ann : Ann := { b := fun i => match i with | 0 => #[0, 1, 3, 7, 15, 31, 0, 127, 255, 0, 512, 1536, 3584, 7680, 16383, 32767] | _ => #[], ord := fun i => match i with | 0 => [0, 1, 2, 3, 4, 5, 6, 7, 9, 10, 11, 12, 13, 8, 14, 15] | _ => [], keep := fun i => match i with  | _ => [], n := 30 }
theorem strings_Builder_grow.eq (t0 : Value) (t1 : Value) (h0 : PH) (R : Value → PH → Prop) : codeF PG strings_Builder_grow.ann 200 (bodyOf Tryz.f105) (endH PG Tryz.f105 R) (fun t => (#[t0, t1] : Array Value).getD t undef) h0 = strings_Builder_grow t0 t1 h0 R := by kernel_rfl
theorem strings_Builder_grow.call {t0 : Value} {t1 : Value} {h0 : PH} {R : Value → PH → Prop} (H : strings_Builder_grow t0 t1 h0 R) : CallsH PG id_strings_Builder_grow #[t0, t1] h0 R :=
  callsF_by strings_Builder_grow.ann 200 mix Tryz.func105 (by kernel_rfl) (by kernel_rfl) (by kernel_rfl) (by kernel_rfl) (by simp [Tryz.ntmps105]) (strings_Builder_grow.eq t0 t1 h0 R) H

def strings_Builder_WriteString (t0 : Value) (t1 : Value) (h0 : PH) (R : Value → PH → Prop) : Prop :=
 CallsH PG id_strings_Builder_copyCheck #[t0] h0 fun v1 h2 =>
 popO (SemP PG (nilS t0)) fun v3 =>
 popO (SemP PG (Instr.fieldAt T_strings_Builder v3 1)) fun v4 =>
 popO (SemE PG h2 (Instr.loadAt T_sl_uint8 v4)) fun v5 =>
 SemH PG (Builtin.append_ #[T_sl_uint8, T_string] T_sl_uint8 #[v5, t1]) h2 fun v6 h7 =>
 popO (SemP PG (nilS t0)) fun v8 =>
 popO (SemP PG (Instr.fieldAt T_strings_Builder v8 1)) fun v9 =>
 SemH PG (storeS T_sl_uint8 v9 v6) h7 fun v10 h11 =>
 popO (SemP PG (Builtin.len_ #[T_string] T_int #[t1])) fun v12 =>
 R (Value.tuple #[v12, Value.nilIface]) h11
def strings_Builder_WriteString.ann : Ann := { b := fun i => match i with  | _ => #[], ord := fun i => match i with  | _ => [], keep := fun i => match i with  | _ => [], n := 19 }
theorem strings_Builder_WriteString.eq (t0 : Value) (t1 : Value) (h0 : PH) (R : Value → PH → Prop) : codeF PG strings_Builder_WriteString.ann 200 (bodyOf Tryz.f97) (endH PG Tryz.f97 R) (fun t => (#[t0, t1] : Array Value).getD t undef) h0 = strings_Builder_WriteString t0 t1 h0 R := by kernel_rfl
theorem strings_Builder_WriteString.call {t0 : Value} {t1 : Value} {h0 : PH} {R : Value → PH → Prop} (H : strings_Builder_WriteString t0 t1 h0 R) : CallsH PG id_strings_Builder_WriteString #[t0, t1] h0 R :=
  callsF_by strings_Builder_WriteString.ann 200 mix Tryz.func97 (by kernel_rfl) (by kernel_rfl) (by kernel_rfl) (by kernel_rfl) (by simp [Tryz.ntmps97]) (strings_Builder_WriteString.eq t0 t1 h0 R) H

def strings_Builder_Len (t0 : Value) (h0 : PH) (R : Value → PH → Prop) : Prop :=
 popO (SemP PG (nilS t0)) fun v1 =>
 popO (SemP PG (Instr.fieldAt T_strings_Builder v1 1)) fun v2 =>
 popO (SemE PG h0 (Instr.loadAt T_sl_uint8 v2)) fun v3 =>
 popO (SemP PG (Builtin.len_ #[T_sl_uint8] T_int #[v3])) fun v4 =>
 R v4 h0
def strings_Builder_Len.ann : Ann := { b := fun i => match i with  | _ => #[], ord := fun i => match i with  | _ => [], keep := fun i => match i with  | _ => [], n := 8 }
theorem strings_Builder_Len.eq (t0 : Value) (h0 : PH) (R : Value → PH → Prop) : codeF PG strings_Builder_Len.ann 200 (bodyOf Tryz.f98) (endH PG Tryz.f98 R) (fun t => (#[t0] : Array Value).getD t undef) h0 = strings_Builder_Len t0 h0 R := by kernel_rfl
theorem strings_Builder_Len.call {t0 : Value} {h0 : PH} {R : Value → PH → Prop} (H : strings_Builder_Len t0 h0 R) : CallsH PG id_strings_Builder_Len #[t0] h0 R :=
  callsF_by strings_Builder_Len.ann 200 mix Tryz.func98 (by kernel_rfl) (by kernel_rfl) (by kernel_rfl) (by kernel_rfl) (by simp [Tryz.ntmps98]) (strings_Builder_Len.eq t0 h0 R) H

def sha_state_digest_b11 (R : Value → PH → Prop) (n6 : List Value → PH → Prop) (n10 : List Value → PH → Prop) (t3 : Value) (t5 : Value) (t6 : Value) (t10 : Value) (t11 : Value) (h0 : PH) : Prop :=
 popO (SemP PG (binOp BinOp.geq T_int t6 (Value.int IntKind.i64 0))) fun v12 =>
 condV v12
 (popO (SemP PG (binOp BinOp.shr T_uint32 t5 t6)) fun v13 =>
 popO (SemP PG (convert T_uint32 T_uint8 v13)) fun v14 =>
 CallsH PG id_strings_Builder_WriteByte #[t3, v14] h0 fun v15 h16 =>
 popO (SemP PG (binOp BinOp.sub T_int t6 (Value.int IntKind.i64 8))) fun v17 =>
 n10 [t3, t5, v17, t10, t11] h16)
 (popO (SemP PG (binOp BinOp.add T_int t11 (Value.int IntKind.i64 1))) fun v18 =>
 n6 [t3, t10, v18] h0)
def sha_state_digest_b7 (R : Value → PH → Prop) (n6 : List Value → PH → Prop) (t3 : Value) (t10 : Value) (t11 : Value) (h0 : PH) : Prop :=
 popO (SemP PG (binOp BinOp.lss T_int t11 (Value.int IntKind.i64 8))) fun v8 =>
 condV v8
 (popO (SemP PG (Instr.index T_8_uint32 t10 t11)) fun v9 =>
 LoopL [3, 5, 6, 10, 11] (fun n10 ρ h => sha_state_digest_b11 R n6 n10 (ρ 3) (ρ 5) (ρ 6) (ρ 10) (ρ 11) h) [t3, v9, (Value.int IntKind.i64 24), t10, t11] h0)
 (CallsH PG id_strings_Builder_String #[t3] h0 fun v19 h20 =>
 R v19 h20)
def sha_state_digest (t0 : Value) (h0 : PH) (R : Value → PH → Prop) : Prop :=
 ∀ r1, h0 r1 = none → bindH (PH.set h0 r1 (.cells (zcells PG T_strings_Builder) T_strings_Builder)) fun h2 =>
 popO (SemP PG (nilS t0)) fun v3 =>
 popO (SemP PG (Instr.fieldAt T_sha_state v3 0)) fun v4 =>
 popO (SemE PG h2 (Instr.loadAt T_8_uint32 v4)) fun v5 =>
 LoopL [3, 10, 11] (fun n6 ρ h => sha_state_digest_b7 R n6 (ρ 3) (ρ 10) (ρ 11) h) [(Value.pointer (some ⟨r1, 0, none⟩)), v5, (Value.int IntKind.i64 0)] h2
def sha_state_digest.ann : Ann := { b := fun i => match i with  | _ => #[], ord := fun i => match i with  | _ => [], keep := fun i => match i with | 3 => [3, 10, 11] | 6 => [3, 5, 6, 10, 11] | _ => [], n := 25 }
theorem sha_state_digest.eq (t0 : Value) (h0 : PH) (R : Value → PH → Prop) : codeF PG sha_state_digest.ann 200 (bodyOf Tryz.f83) (endH PG Tryz.f83 R) (fun t => (#[t0] : Array Value).getD t undef) h0 = sha_state_digest t0 h0 R := by kernel_rfl
theorem sha_state_digest.call {t0 : Value} {h0 : PH} {R : Value → PH → Prop} (H : sha_state_digest t0 h0 R) : CallsH PG id_sha_state_digest #[t0] h0 R :=
  callsF_by sha_state_digest.ann 200 mix Tryz.func83 (by kernel_rfl) (by kernel_rfl) (by kernel_rfl) (by kernel_rfl) (by simp [Tryz.ntmps83]) (sha_state_digest.eq t0 h0 R) H

def merkle_digest (t0 : Value) (h0 : PH) (R : Value → PH → Prop) : Prop :=
 popO (SemP PG (Builtin.len_ #[T_sl_api_Pair] T_int #[t0])) fun v1 =>
 popO (SemE PG h0 (binS BinOp.eql T_int (.tmp 5) (.const (Value.int IntKind.i64 1)) v1 (Value.int IntKind.i64 1))) fun v2 =>
 condV v2
 (popO (SemP PG (Instr.indexAt T_sl_api_Pair t0 (Value.int IntKind.i64 0))) fun v3 =>
 popO (SemE PG h0 (Instr.loadAt T_api_Pair v3)) fun v4 =>
 CallsH PG id_merkle_Leaf #[v4] h0 fun v5 h6 =>
 R v5 h6)
 (popO (SemP PG (Builtin.len_ #[T_sl_api_Pair] T_int #[t0])) fun v7 =>
 CallsH PG id_merkle_left #[v7] h0 fun v8 h9 =>
 popO (SemP PG (Instr.sliceAt T_sl_api_Pair t0 none (some v8) none)) fun v10 =>
 popO (SemP PG (Instr.sliceAt T_sl_api_Pair t0 (some v8) none none)) fun v11 =>
 CallsH PG id_merkle_digest #[v10] h9 fun v12 h13 =>
 (CallsH PG id_merkle_digest #[v11] h13 fun v14 h15 =>
 (CallsH PG id_merkle_both #[v12, v14] h15 fun v16 h17 =>
 (R v16 h17))))
def merkle_digest.ann : Ann := { b := fun i => match i with | 4 => #[0, 0, 3, 7, 0, 0, 48, 127, 255, 511] | _ => #[], ord := fun i => match i with | 4 => [0, 1, 2, 4, 5, 6, 3, 7, 8, 9] | _ => [], keep := fun i => match i with  | _ => [], n := 23 }
theorem merkle_digest.eq (t0 : Value) (h0 : PH) (R : Value → PH → Prop) : codeF PG merkle_digest.ann 200 (bodyOf Tryz.f37) (endH PG Tryz.f37 R) (fun t => (#[t0] : Array Value).getD t undef) h0 = merkle_digest t0 h0 R := by kernel_rfl
theorem merkle_digest.call {t0 : Value} {h0 : PH} {R : Value → PH → Prop} (H : merkle_digest t0 h0 R) : CallsH PG id_merkle_digest #[t0] h0 R :=
  callsF_by merkle_digest.ann 200 mix Tryz.func37 (by kernel_rfl) (by kernel_rfl) (by kernel_rfl) (by kernel_rfl) (by simp [Tryz.ntmps37]) (merkle_digest.eq t0 h0 R) H

def merkle_Leaf (t0 : Value) (h0 : PH) (R : Value → PH → Prop) : Prop :=
 ∀ r1, h0 r1 = none → bindH (PH.set h0 r1 (.cells (Value.cells t0) T_api_Pair)) fun h2 =>
 popO (SemP PG (Instr.fieldAt T_api_Pair (Value.pointer (some ⟨r1, 0, none⟩)) 0)) fun v3 =>
 popO (SemE PG h2 (Instr.loadAt T_string v3)) fun v4 =>
 popO (SemP PG (Builtin.len_ #[T_string] T_int #[v4])) fun v5 =>
 popO (SemP PG (Instr.fieldAt T_api_Pair (Value.pointer (some ⟨r1, 0, none⟩)) 0)) fun v6 =>
 popO (SemE PG h2 (Instr.loadAt T_string v6)) fun v7 =>
 popO (SemP PG (Instr.fieldAt T_api_Pair (Value.pointer (some ⟨r1, 0, none⟩)) 1)) fun v8 =>
 popO (SemE PG h2 (Instr.loadAt T_string v8)) fun v9 =>
 popO (SemP PG (Builtin.len_ #[T_string] T_int #[v9])) fun v10 =>
 popO (SemP PG (Instr.fieldAt T_api_Pair (Value.pointer (some ⟨r1, 0, none⟩)) 1)) fun v11 =>
 popO (SemE PG h2 (Instr.loadAt T_string v11)) fun v12 =>
 CallsH PG id_merkle_one #[v5] h2 fun v13 h14 =>
 SemE PG h14 (Instr.loadAt T_string v11) = some v12 ∧ SemE PG h14 (Instr.loadAt T_string v8) = some v9 ∧ SemE PG h14 (Instr.loadAt T_string v6) = some v7 ∧ (CallsH PG id_merkle_one #[v10] h14 fun v15 h16 =>
 SemE PG h16 (Instr.loadAt T_string v11) = some v12 ∧ SemE PG h16 (Instr.loadAt T_string v6) = some v7 ∧ (popO (SemA PG (Instr.buildSlice T_sl_string 5 #[(0, (Value.string { data := #[0] })), (1, v13), (2, v7), (3, v15), (4, v12)])) fun x18 => ∀ r17, h16 r17 = none → popO (SemP PG (x18.2 r17)) fun v19 => bindH (PH.set h16 r17 x18.1) fun h20 =>
 CallsH PG id_sha_Sum #[v19] h20 fun v21 h22 =>
 (R v21 h22)))
def merkle_Leaf.ann : Ann := { b := fun i => match i with | 1 => #[0, 1, 3, 7, 0, 16, 0, 64, 192, 463, 0, 1024, 4095, 8191, 16383] | _ => #[], ord := fun i => match i with | 1 => [0, 1, 2, 4, 5, 6, 7, 8, 10, 11, 3, 9, 12, 13, 14] | _ => [], keep := fun i => match i with  | _ => [], n := 17 }
theorem merkle_Leaf.eq (t0 : Value) (h0 : PH) (R : Value → PH → Prop) : codeF PG merkle_Leaf.ann 200 (bodyOf Tryz.f48) (endH PG Tryz.f48 R) (fun t => (#[t0] : Array Value).getD t undef) h0 = merkle_Leaf t0 h0 R := by kernel_rfl
theorem merkle_Leaf.call {t0 : Value} {h0 : PH} {R : Value → PH → Prop} (H : merkle_Leaf t0 h0 R) : CallsH PG id_merkle_Leaf #[t0] h0 R :=
  callsF_by merkle_Leaf.ann 200 mix Tryz.func48 (by kernel_rfl) (by kernel_rfl) (by kernel_rfl) (by kernel_rfl) (by simp [Tryz.ntmps48]) (merkle_Leaf.eq t0 h0 R) H

def merkle_left (t0 : Value) (h0 : PH) (R : Value → PH → Prop) : Prop :=
 popO (SemP PG (binOp BinOp.sub T_int t0 (Value.int IntKind.i64 1))) fun v1 =>
 popO (SemP PG (convert T_int T_uint v1)) fun v2 =>
 CallsH PG id_math_bits_Len #[v2] h0 fun v3 h4 =>
 popO (SemP PG (binOp BinOp.sub T_int v3 (Value.int IntKind.i64 1))) fun v5 =>
 popO (SemP PG (binOp BinOp.shl T_int (Value.int IntKind.i64 1) v5)) fun v6 =>
 R v6 h4
def merkle_left.ann : Ann := { b := fun i => match i with  | _ => #[], ord := fun i => match i with  | _ => [], keep := fun i => match i with  | _ => [], n := 9 }
theorem merkle_left.eq (t0 : Value) (h0 : PH) (R : Value → PH → Prop) : codeF PG merkle_left.ann 200 (bodyOf Tryz.f49) (endH PG Tryz.f49 R) (fun t => (#[t0] : Array Value).getD t undef) h0 = merkle_left t0 h0 R := by kernel_rfl
theorem merkle_left.call {t0 : Value} {h0 : PH} {R : Value → PH → Prop} (H : merkle_left t0 h0 R) : CallsH PG id_merkle_left #[t0] h0 R :=
  callsF_by merkle_left.ann 200 mix Tryz.func49 (by kernel_rfl) (by kernel_rfl) (by kernel_rfl) (by kernel_rfl) (by simp [Tryz.ntmps49]) (merkle_left.eq t0 h0 R) H

def math_bits_Len (t0 : Value) (h0 : PH) (R : Value → PH → Prop) : Prop :=
 condV (Value.bool false)
 (popO (SemP PG (convert T_uint T_uint32 t0)) fun v1 =>
 CallsH PG id_math_bits_Len32 #[v1] h0 fun v2 h3 =>
 R v2 h3)
 (CallsH PG id_math_bits_Len64 #[t0] h0 fun v4 h5 =>
 R v4 h5)
def math_bits_Len.ann : Ann := { b := fun i => match i with  | _ => #[], ord := fun i => match i with  | _ => [], keep := fun i => match i with  | _ => [], n := 8 }
theorem math_bits_Len.eq (t0 : Value) (h0 : PH) (R : Value → PH → Prop) : codeF PG math_bits_Len.ann 200 (bodyOf Tryz.f44) (endH PG Tryz.f44 R) (fun t => (#[t0] : Array Value).getD t undef) h0 = math_bits_Len t0 h0 R := by kernel_rfl
theorem math_bits_Len.call {t0 : Value} {h0 : PH} {R : Value → PH → Prop} (H : math_bits_Len t0 h0 R) : CallsH PG id_math_bits_Len #[t0] h0 R :=
  callsF_by math_bits_Len.ann 200 mix Tryz.func44 (by kernel_rfl) (by kernel_rfl) (by kernel_rfl) (by kernel_rfl) (by simp [Tryz.ntmps44]) (math_bits_Len.eq t0 h0 R) H

def math_bits_Len32_k7 (R : Value → PH → Prop) (t0 : Value) (t2 : Value) (h0 : PH) : Prop :=
 popO (SemP PG (convert T_uint32 T_uint8 t0)) fun v8 =>
 popO (SemP PG (Instr.index T_string (Value.string { data := lit3 }) v8)) fun v9 =>
 popO (SemP PG (convert T_uint8 T_int v9)) fun v10 =>
 popO (SemP PG (binOp BinOp.add T_int t2 v10)) fun v11 =>
 R v11 h0
def math_bits_Len32_k3 (R : Value → PH → Prop) (t0 : Value) (t2 : Value) (h0 : PH) : Prop :=
 popO (SemP PG (binOp BinOp.geq T_uint32 t0 (Value.int IntKind.u32 256))) fun v4 =>
 condV v4
 (popO (SemP PG (binOp BinOp.shr T_uint32 t0 (Value.int IntKind.u64 8))) fun v5 =>
 popO (SemP PG (binOp BinOp.add T_int t2 (Value.int IntKind.i64 8))) fun v6 =>
 math_bits_Len32_k7 R v5 v6 h0)
 (math_bits_Len32_k7 R t0 t2 h0)
def math_bits_Len32 (t0 : Value) (h0 : PH) (R : Value → PH → Prop) : Prop :=
 popO (SemP PG (binOp BinOp.geq T_uint32 t0 (Value.int IntKind.u32 65536))) fun v1 =>
 condV v1
 (popO (SemP PG (binOp BinOp.shr T_uint32 t0 (Value.int IntKind.u64 16))) fun v2 =>
 math_bits_Len32_k3 R v2 (Value.int IntKind.i64 16) h0)
 (math_bits_Len32_k3 R t0 (Value.int IntKind.i64 0) h0)
def math_bits_Len32.ann : Ann := { b := fun i => match i with  | _ => #[], ord := fun i => match i with  | _ => [], keep := fun i => match i with  | _ => [], n := 19 }
theorem math_bits_Len32.eq (t0 : Value) (h0 : PH) (R : Value → PH → Prop) : codeF PG math_bits_Len32.ann 200 (bodyOf Tryz.f64) (endH PG Tryz.f64 R) (fun t => (#[t0] : Array Value).getD t undef) h0 = math_bits_Len32 t0 h0 R := by kernel_rfl
theorem math_bits_Len32.call {t0 : Value} {h0 : PH} {R : Value → PH → Prop} (H : math_bits_Len32 t0 h0 R) : CallsH PG id_math_bits_Len32 #[t0] h0 R :=
  callsF_by math_bits_Len32.ann 200 mix Tryz.func64 (by kernel_rfl) (by kernel_rfl) (by kernel_rfl) (by kernel_rfl) (by simp [Tryz.ntmps64]) (math_bits_Len32.eq t0 h0 R) H

def math_bits_Len64_k11 (R : Value → PH → Prop) (t0 : Value) (t2 : Value) (h0 : PH) : Prop :=
 popO (SemP PG (convert T_uint64 T_uint8 t0)) fun v12 =>
 popO (SemP PG (Instr.index T_string (Value.string { data := lit3 }) v12)) fun v13 =>
 popO (SemP PG (convert T_uint8 T_int v13)) fun v14 =>
 popO (SemP PG (binOp BinOp.add T_int t2 v14)) fun v15 =>
 R v15 h0
def math_bits_Len64_k7 (R : Value → PH → Prop) (t0 : Value) (t2 : Value) (h0 : PH) : Prop :=
 popO (SemP PG (binOp BinOp.geq T_uint64 t0 (Value.int IntKind.u64 256))) fun v8 =>
 condV v8
 (popO (SemP PG (binOp BinOp.shr T_uint64 t0 (Value.int IntKind.u64 8))) fun v9 =>
 popO (SemP PG (binOp BinOp.add T_int t2 (Value.int IntKind.i64 8))) fun v10 =>
 math_bits_Len64_k11 R v9 v10 h0)
 (math_bits_Len64_k11 R t0 t2 h0)
def math_bits_Len64_k3 (R : Value → PH → Prop) (t0 : Value) (t2 : Value) (h0 : PH) : Prop :=
 popO (SemP PG (binOp BinOp.geq T_uint64 t0 (Value.int IntKind.u64 65536))) fun v4 =>
 condV v4
 (popO (SemP PG (binOp BinOp.shr T_uint64 t0 (Value.int IntKind.u64 16))) fun v5 =>
 popO (SemP PG (binOp BinOp.add T_int t2 (Value.int IntKind.i64 16))) fun v6 =>
 math_bits_Len64_k7 R v5 v6 h0)
 (math_bits_Len64_k7 R t0 t2 h0)
def math_bits_Len64 (t0 : Value) (h0 : PH) (R : Value → PH → Prop) : Prop :=
 popO (SemP PG (binOp BinOp.geq T_uint64 t0 (Value.int IntKind.u64 4294967296))) fun v1 =>
 condV v1
 (popO (SemP PG (binOp BinOp.shr T_uint64 t0 (Value.int IntKind.u64 32))) fun v2 =>
 math_bits_Len64_k3 R v2 (Value.int IntKind.i64 32) h0)
 (math_bits_Len64_k3 R t0 (Value.int IntKind.i64 0) h0)
def math_bits_Len64.ann : Ann := { b := fun i => match i with  | _ => #[], ord := fun i => match i with  | _ => [], keep := fun i => match i with  | _ => [], n := 25 }
theorem math_bits_Len64.eq (t0 : Value) (h0 : PH) (R : Value → PH → Prop) : codeF PG math_bits_Len64.ann 200 (bodyOf Tryz.f65) (endH PG Tryz.f65 R) (fun t => (#[t0] : Array Value).getD t undef) h0 = math_bits_Len64 t0 h0 R := by kernel_rfl
theorem math_bits_Len64.call {t0 : Value} {h0 : PH} {R : Value → PH → Prop} (H : math_bits_Len64 t0 h0 R) : CallsH PG id_math_bits_Len64 #[t0] h0 R :=
  callsF_by math_bits_Len64.ann 200 mix Tryz.func65 (by kernel_rfl) (by kernel_rfl) (by kernel_rfl) (by kernel_rfl) (by simp [Tryz.ntmps65]) (math_bits_Len64.eq t0 h0 R) H

def merkle_both (t0 : Value) (t1 : Value) (h0 : PH) (R : Value → PH → Prop) : Prop :=
 popO (SemA PG (Instr.buildSlice T_sl_string 3 #[(0, (Value.string { data := #[1] })), (1, t0), (2, t1)])) fun x2 => ∀ r1, h0 r1 = none → popO (SemP PG (x2.2 r1)) fun v3 => bindH (PH.set h0 r1 x2.1) fun h4 =>
 CallsH PG id_sha_Sum #[v3] h4 fun v5 h6 =>
 R v5 h6
def merkle_both.ann : Ann := { b := fun i => match i with  | _ => #[], ord := fun i => match i with  | _ => [], keep := fun i => match i with  | _ => [], n := 9 }
theorem merkle_both.eq (t0 : Value) (t1 : Value) (h0 : PH) (R : Value → PH → Prop) : codeF PG merkle_both.ann 200 (bodyOf Tryz.f50) (endH PG Tryz.f50 R) (fun t => (#[t0, t1] : Array Value).getD t undef) h0 = merkle_both t0 t1 h0 R := by kernel_rfl
theorem merkle_both.call {t0 : Value} {t1 : Value} {h0 : PH} {R : Value → PH → Prop} (H : merkle_both t0 t1 h0 R) : CallsH PG id_merkle_both #[t0, t1] h0 R :=
  callsF_by merkle_both.ann 200 mix Tryz.func50 (by kernel_rfl) (by kernel_rfl) (by kernel_rfl) (by kernel_rfl) (by simp [Tryz.ntmps50]) (merkle_both.eq t0 t1 h0 R) H

def store_Store_Blocks (t0 : Value) (h0 : PH) (R : Value → PH → Prop) : Prop :=
 popO (SemP PG (nilS t0)) fun v1 =>
 popO (SemP PG (Instr.fieldAt T_store_Store v1 1)) fun v2 =>
 popO (SemE PG h0 (Instr.loadAt T_sl_store_block v2)) fun v3 =>
 popO (SemP PG (Builtin.len_ #[T_sl_store_block] T_int #[v3])) fun v4 =>
 R v4 h0
def store_Store_Blocks.ann : Ann := { b := fun i => match i with  | _ => #[], ord := fun i => match i with  | _ => [], keep := fun i => match i with  | _ => [], n := 8 }
theorem store_Store_Blocks.eq (t0 : Value) (h0 : PH) (R : Value → PH → Prop) : codeF PG store_Store_Blocks.ann 200 (bodyOf Tryz.f12) (endH PG Tryz.f12 R) (fun t => (#[t0] : Array Value).getD t undef) h0 = store_Store_Blocks t0 h0 R := by kernel_rfl
theorem store_Store_Blocks.call {t0 : Value} {h0 : PH} {R : Value → PH → Prop} (H : store_Store_Blocks t0 h0 R) : CallsH PG id_store_Store_Blocks #[t0] h0 R :=
  callsF_by store_Store_Blocks.ann 200 mix Tryz.func12 (by kernel_rfl) (by kernel_rfl) (by kernel_rfl) (by kernel_rfl) (by simp [Tryz.ntmps12]) (store_Store_Blocks.eq t0 h0 R) H

def store_Store_At (t0 : Value) (t1 : Value) (h0 : PH) (R : Value → PH → Prop) : Prop :=
 CallsH PG id_store_Store_at #[t0, t1] h0 fun v1 h2 =>
 popO (SemP PG (Instr.extract v1 0)) fun v3 =>
 popO (SemP PG (Instr.extract v1 1)) fun v4 =>
 ∀ r5, h2 r5 = none → bindH (PH.set h2 r5 (.cells (zcells PG T_store_block) T_store_block)) fun h6 =>
 SemH PG (storeS T_store_block (Value.pointer (some ⟨r5, 0, none⟩)) v3) h6 fun v7 h8 =>
 popO (SemP PG (Instr.fieldAt T_store_block (Value.pointer (some ⟨r5, 0, none⟩)) 0)) fun v9 =>
 popO (SemE PG h8 (Instr.loadAt T_store_sorted v9)) fun v10 =>
 CallsH PG id_store_sorted_pairs #[v10] h8 fun v11 h12 =>
 R (Value.tuple #[v11, v4]) h12
def store_Store_At.ann : Ann := { b := fun i => match i with  | _ => #[], ord := fun i => match i with  | _ => [], keep := fun i => match i with  | _ => [], n := 18 }
theorem store_Store_At.eq (t0 : Value) (t1 : Value) (h0 : PH) (R : Value → PH → Prop) : codeF PG store_Store_At.ann 200 (bodyOf Tryz.f15) (endH PG Tryz.f15 R) (fun t => (#[t0, t1] : Array Value).getD t undef) h0 = store_Store_At t0 t1 h0 R := by kernel_rfl
theorem store_Store_At.call {t0 : Value} {t1 : Value} {h0 : PH} {R : Value → PH → Prop} (H : store_Store_At t0 t1 h0 R) : CallsH PG id_store_Store_At #[t0, t1] h0 R :=
  callsF_by store_Store_At.ann 200 mix Tryz.func15 (by kernel_rfl) (by kernel_rfl) (by kernel_rfl) (by kernel_rfl) (by simp [Tryz.ntmps15]) (store_Store_At.eq t0 t1 h0 R) H

def store_Store_at (t0 : Value) (t1 : Value) (h0 : PH) (R : Value → PH → Prop) : Prop :=
 ∀ r1, h0 r1 = none → bindH (PH.set h0 r1 (.cells (zcells PG T_store_block) T_store_block)) fun h2 =>
 popO (SemP PG (nilS t0)) fun v3 =>
 popO (SemP PG (Instr.fieldAt T_store_Store v3 2)) fun v4 =>
 popO (SemE PG h2 (Instr.loadAt T_uint64 v4)) fun v5 =>
 popO (SemP PG (binOp BinOp.sub T_uint64 v5 t1)) fun v6 =>
 popO (SemP PG (nilS t0)) fun v7 =>
 popO (SemP PG (Instr.fieldAt T_store_Store v7 2)) fun v8 =>
 popO (SemE PG h2 (Instr.loadAt T_uint64 v8)) fun v9 =>
 popO (SemP PG (binOp BinOp.gtr T_uint64 t1 v9)) fun v10 =>
 gopV (yV v10) false (fun k13 => k13 v6 h2) h2 fun v11 h12 =>
 gopV (yV v10) false (fun k16 => k16 t0 h12) h12 fun v14 h15 =>
 gopV (yV v10) false (fun k19 => popO (SemP PG (nilS v14)) fun v20 => k19 v20 h15) h15 fun v17 h18 =>
 gopV (yV v10) false (fun k23 => popO (SemP PG (Instr.fieldAt T_store_Store v17 1)) fun v24 => k23 v24 h18) h18 fun v21 h22 =>
 gopV (yV v10) false (fun k27 => popO (SemE PG h22 (Instr.loadAt T_sl_store_block v21)) fun v28 => k27 v28 h22) h22 fun v25 h26 =>
 gopV (yV v10) false (fun k31 => popO (SemP PG (Builtin.len_ #[T_sl_store_block] T_int #[v25])) fun v32 => k31 v32 h26) h26 fun v29 h30 =>
 gopV (yV v10) false (fun k35 => popO (SemP PG (convert T_int T_uint64 v29)) fun v36 => k35 v36 h30) h30 fun v33 h34 =>
 gopV (yV v10) false (fun k39 => popO (SemP PG (binOp BinOp.geq T_uint64 v11 v33)) fun v40 => k39 v40 h34) h34 fun v37 h38 =>
 popO (pickV v10 (Value.bool true) v37) fun v41 =>
 condV v41
 (popO (SemP PG (Instr.build T_store_block #[])) fun v42 =>
 SemH PG (storeS T_store_block (Value.pointer (some ⟨r1, 0, none⟩)) v42) h38 fun v43 h44 =>
 popO (SemE PG h44 (Instr.loadAt T_store_block (Value.pointer (some ⟨r1, 0, none⟩)))) fun v45 =>
 R (Value.tuple #[v45, (Value.int IntKind.i64 3)]) h44)
 (popO (SemP PG (nilS t0)) fun v46 =>
 popO (SemP PG (Instr.fieldAt T_store_Store v46 1)) fun v47 =>
 popO (SemE PG h38 (Instr.loadAt T_sl_store_block v47)) fun v48 =>
 popO (SemP PG (nilS t0)) fun v49 =>
 popO (SemP PG (Instr.fieldAt T_store_Store v49 1)) fun v50 =>
 popO (SemE PG h38 (Instr.loadAt T_sl_store_block v50)) fun v51 =>
 popO (SemP PG (Builtin.len_ #[T_sl_store_block] T_int #[v51])) fun v52 =>
 popO (SemP PG (convert T_int T_uint64 v52)) fun v53 =>
 popO (SemP PG (binOp BinOp.sub T_uint64 v53 (Value.int IntKind.u64 1))) fun v54 =>
 popO (SemP PG (binOp BinOp.sub T_uint64 v54 v6)) fun v55 =>
 popO (SemP PG (Instr.indexAt T_sl_store_block v48 v55)) fun v56 =>
 popO (SemE PG h38 (Instr.loadAt T_store_block v56)) fun v57 =>
 SemH PG (storeS T_store_block (Value.pointer (some ⟨r1, 0, none⟩)) v57) h38 fun v58 h59 =>
 (popO (SemE PG h59 (Instr.loadAt T_store_block (Value.pointer (some ⟨r1, 0, none⟩)))) fun v60 =>
 R (Value.tuple #[v60, (Value.int IntKind.i64 0)]) h59))
def store_Store_at.ann : Ann := { b := fun i => match i with | 4 => #[0, 1, 3, 7, 0, 16, 48, 112, 240, 496, 1008, 0, 4080, 8191, 16383, 32767, 65535] | _ => #[], ord := fun i => match i with | 4 => [0, 1, 2, 3, 4, 5, 6, 7, 8, 9, 10, 11, 12, 13, 14, 15, 16] | _ => [], keep := fun i => match i with  | _ => [], n := 45 }
theorem store_Store_at.eq (t0 : Value) (t1 : Value) (h0 : PH) (R : Value → PH → Prop) : codeF PG store_Store_at.ann 200 (bodyOf Tryz.f29) (endH PG Tryz.f29 R) (fun t => (#[t0, t1] : Array Value).getD t undef) h0 = store_Store_at t0 t1 h0 R := by kernel_rfl
theorem store_Store_at.call {t0 : Value} {t1 : Value} {h0 : PH} {R : Value → PH → Prop} (H : store_Store_at t0 t1 h0 R) : CallsH PG id_store_Store_at #[t0, t1] h0 R :=
  callsF_by store_Store_at.ann 200 mix Tryz.func29 (by kernel_rfl) (by kernel_rfl) (by kernel_rfl) (by kernel_rfl) (by simp [Tryz.ntmps29]) (store_Store_at.eq t0 t1 h0 R) H

def store_sorted_pairs (t0 : Value) (h0 : PH) (R : Value → PH → Prop) : Prop :=
 ∀ r1, h0 r1 = none → bindH (PH.set h0 r1 (.cells (Value.cells t0) T_store_sorted)) fun h2 =>
 popO (SemP PG (Instr.fieldAt T_store_sorted (Value.pointer (some ⟨r1, 0, none⟩)) 0)) fun v3 =>
 popO (SemE PG h2 (Instr.loadAt T_sl_api_Pair v3)) fun v4 =>
 CallsH PG id_slices_Clone_sl_api_Pair_api_Pair #[v4] h2 fun v5 h6 =>
 R v5 h6
def store_sorted_pairs.ann : Ann := { b := fun i => match i with  | _ => #[], ord := fun i => match i with  | _ => [], keep := fun i => match i with  | _ => [], n := 6 }
theorem store_sorted_pairs.eq (t0 : Value) (h0 : PH) (R : Value → PH → Prop) : codeF PG store_sorted_pairs.ann 200 (bodyOf Tryz.f30) (endH PG Tryz.f30 R) (fun t => (#[t0] : Array Value).getD t undef) h0 = store_sorted_pairs t0 h0 R := by kernel_rfl
theorem store_sorted_pairs.call {t0 : Value} {h0 : PH} {R : Value → PH → Prop} (H : store_sorted_pairs t0 h0 R) : CallsH PG id_store_sorted_pairs #[t0] h0 R :=
  callsF_by store_sorted_pairs.ann 200 mix Tryz.func30 (by kernel_rfl) (by kernel_rfl) (by kernel_rfl) (by kernel_rfl) (by simp [Tryz.ntmps30]) (store_sorted_pairs.eq t0 h0 R) H

def slices_Clone_sl_api_Pair_api_Pair (t0 : Value) (h0 : PH) (R : Value → PH → Prop) : Prop :=
 popO (SemE PG h0 (binS BinOp.eql T_sl_api_Pair (.tmp 3) (.const (Value.slice none 0 0)) t0 (Value.slice none 0 0))) fun v1 =>
 condV v1
 (R (Value.slice none 0 0) h0)
 (popO (SemA PG (Instr.buildSlice T_sl_api_Pair 0 #[])) fun x3 => ∀ r2, h0 r2 = none → popO (SemP PG (x3.2 r2)) fun v4 => bindH (PH.set h0 r2 x3.1) fun h5 =>
 SemH PG (Builtin.append_ #[T_sl_api_Pair, T_sl_api_Pair] T_sl_api_Pair #[v4, t0]) h5 fun v6 h7 =>
 R v6 h7)
def slices_Clone_sl_api_Pair_api_Pair.ann : Ann := { b := fun i => match i with  | _ => #[], ord := fun i => match i with  | _ => [], keep := fun i => match i with  | _ => [], n := 8 }
theorem slices_Clone_sl_api_Pair_api_Pair.eq (t0 : Value) (h0 : PH) (R : Value → PH → Prop) : codeF PG slices_Clone_sl_api_Pair_api_Pair.ann 200 (bodyOf Tryz.f38) (endH PG Tryz.f38 R) (fun t => (#[t0] : Array Value).getD t undef) h0 = slices_Clone_sl_api_Pair_api_Pair t0 h0 R := by kernel_rfl
theorem slices_Clone_sl_api_Pair_api_Pair.call {t0 : Value} {h0 : PH} {R : Value → PH → Prop} (H : slices_Clone_sl_api_Pair_api_Pair t0 h0 R) : CallsH PG id_slices_Clone_sl_api_Pair_api_Pair #[t0] h0 R :=
  callsF_by slices_Clone_sl_api_Pair_api_Pair.ann 200 mix Tryz.func38 (by kernel_rfl) (by kernel_rfl) (by kernel_rfl) (by kernel_rfl) (by simp [Tryz.ntmps38]) (slices_Clone_sl_api_Pair_api_Pair.eq t0 h0 R) H

def store_Store_Set (t0 : Value) (t1 : Value) (t2 : Value) (h0 : PH) (R : Value → PH → Prop) : Prop :=
 popO (SemP PG (Builtin.len_ #[T_string] T_int #[t1])) fun v1 =>
 popO (SemP PG (binOp BinOp.lss T_int v1 (Value.int IntKind.i64 1))) fun v2 =>
 gopV (yV v2) false (fun k5 => k5 t1 h0) h0 fun v3 h4 =>
 gopV (yV v2) false (fun k8 => popO (SemP PG (Builtin.len_ #[T_string] T_int #[v3])) fun v9 => k8 v9 h4) h4 fun v6 h7 =>
 gopV (yV v2) false (fun k12 => popO (SemP PG (binOp BinOp.gtr T_int v6 (Value.int IntKind.i64 16))) fun v13 => k12 v13 h7) h7 fun v10 h11 =>
 popO (pickV v2 (Value.bool true) v10) fun v14 =>
 gopV (yV v14) false (fun k17 => k17 t2 h11) h11 fun v15 h16 =>
 gopV (yV v14) false (fun k20 => popO (SemP PG (Builtin.len_ #[T_string] T_int #[v15])) fun v21 => k20 v21 h16) h16 fun v18 h19 =>
 gopV (yV v14) false (fun k24 => popO (SemP PG (binOp BinOp.gtr T_int v18 (Value.int IntKind.i64 64))) fun v25 => k24 v25 h19) h19 fun v22 h23 =>
 popO (pickV v14 (Value.bool true) v22) fun v26 =>
 condV v26
 (R (Value.int IntKind.i64 1) h23)
 (popO (SemP PG (nilS t0)) fun v27 =>
 popO (SemP PG (Instr.fieldAt T_store_Store v27 0)) fun v28 =>
 popO (SemE PG h23 (Instr.loadAt T_map_string_string v28)) fun v29 =>
 popO (SemE PG h23 (Instr.lookup T_map_string_string v29 t1 true)) fun v30 =>
 popO (SemP PG (Instr.extract v30 0)) fun v31 =>
 popO (SemP PG (Instr.extract v30 1)) fun v32 =>
 popO (SemP PG (Op.unary UnOp.not v32)) fun v33 =>
 gopV (yV v33) true (fun k36 => k36 t0 h23) h23 fun v34 h35 =>
 gopV (yV v33) true (fun k39 => popO (SemP PG (nilS v34)) fun v40 => k39 v40 h35) h35 fun v37 h38 =>
 gopV (yV v33) true (fun k43 => popO (SemP PG (Instr.fieldAt T_store_Store v37 0)) fun v44 => k43 v44 h38) h38 fun v41 h42 =>
 gopV (yV v33) true (fun k47 => popO (SemE PG h42 (Instr.loadAt T_map_string_string v41)) fun v48 => k47 v48 h42) h42 fun v45 h46 =>
 gopV (yV v33) true (fun k51 => popO (SemE PG h46 (Builtin.len_ #[T_map_string_string] T_int #[v45])) fun v52 => k51 v52 h46) h46 fun v49 h50 =>
 gopV (yV v33) true (fun k55 => popO (SemP PG (binOp BinOp.geq T_int v49 (Value.int IntKind.i64 4096))) fun v56 => k55 v56 h50) h50 fun v53 h54 =>
 popO (pickV v33 v53 (Value.bool false)) fun v57 =>
 condV v57
 (R (Value.int IntKind.i64 2) h54)
 (popO (SemP PG (nilS t0)) fun v58 =>
 popO (SemP PG (Instr.fieldAt T_store_Store v58 0)) fun v59 =>
 popO (SemE PG h54 (Instr.loadAt T_map_string_string v59)) fun v60 =>
 SemH PG (mapUpdS T_map_string_string v60 t1 t2) h54 fun v61 h62 =>
 R (Value.int IntKind.i64 0) h62))
def store_Store_Set.ann : Ann := { b := fun i => match i with  | _ => #[], ord := fun i => match i with  | _ => [], keep := fun i => match i with  | _ => [], n := 47 }
theorem store_Store_Set.eq (t0 : Value) (t1 : Value) (t2 : Value) (h0 : PH) (R : Value → PH → Prop) : codeF PG store_Store_Set.ann 200 (bodyOf Tryz.f21) (endH PG Tryz.f21 R) (fun t => (#[t0, t1, t2] : Array Value).getD t undef) h0 = store_Store_Set t0 t1 t2 h0 R := by kernel_rfl
theorem store_Store_Set.call {t0 : Value} {t1 : Value} {t2 : Value} {h0 : PH} {R : Value → PH → Prop} (H : store_Store_Set t0 t1 t2 h0 R) : CallsH PG id_store_Store_Set #[t0, t1, t2] h0 R :=
  callsF_by store_Store_Set.ann 200 mix Tryz.func21 (by kernel_rfl) (by kernel_rfl) (by kernel_rfl) (by kernel_rfl) (by simp [Tryz.ntmps21]) (store_Store_Set.eq t0 t1 t2 h0 R) H

def store_Store_Commit_b16 (R : Value → PH → Prop) (n15 : List Value → PH → Prop) (t0 : Value) (t4 : Value) (t24 : Value) (h0 : PH) : Prop :=
 SemH PG (Instr.next t24 false T_) h0 fun v17 h18 =>
 popO (SemP PG (Instr.extract v17 0)) fun v19 =>
 condV v19
 (SemH PG (Instr.entry t24) h18 fun v20 h21 =>
 popO (SemP PG (Instr.extract v20 0)) fun v22 =>
 popO (SemP PG (Instr.extract v20 1)) fun v23 =>
 popO (SemP PG (Instr.build T_api_Pair #[(0, v22), (1, v23)])) fun v24 =>
 popO (SemA PG (Instr.buildSlice T_sl_api_Pair 1 #[(0, v24)])) fun x26 => ∀ r25, h21 r25 = none → popO (SemP PG (x26.2 r25)) fun v27 => bindH (PH.set h21 r25 x26.1) fun h28 =>
 SemH PG (Builtin.append_ #[T_sl_api_Pair, T_sl_api_Pair] T_sl_api_Pair #[t4, v27]) h28 fun v29 h30 =>
 n15 [t0, v29, t24] h30)
 (CallsH PG id_slices_SortFunc_sl_api_Pair_api_Pair #[t4, (Value.func (Fn.func id_store_Store_Commit_1) #[] #[])] h18 fun v31 h32 =>
 popO (SemP PG (nilS t0)) fun v33 =>
 popO (SemP PG (Instr.fieldAt T_store_Store v33 1)) fun v34 =>
 popO (SemE PG h32 (Instr.loadAt T_sl_store_block v34)) fun v35 =>
 popO (SemP PG (Instr.build T_store_sorted #[(0, t4)])) fun v36 =>
 CallsH PG id_merkle_Root #[t4] h32 fun v37 h38 =>
 SemE PG h38 (Instr.loadAt T_sl_store_block v34) = some v35 ∧ (popO (SemP PG (Instr.build T_store_block #[(0, v36), (1, v37)])) fun v39 =>
 popO (SemA PG (Instr.buildSlice T_sl_store_block 1 #[(0, v39)])) fun x41 => ∀ r40, h38 r40 = none → popO (SemP PG (x41.2 r40)) fun v42 => bindH (PH.set h38 r40 x41.1) fun h43 =>
 SemH PG (Builtin.append_ #[T_sl_store_block, T_sl_store_block] T_sl_store_block #[v35, v42]) h43 fun v44 h45 =>
 (popO (SemP PG (nilS t0)) fun v46 =>
 popO (SemP PG (Instr.fieldAt T_store_Store v46 1)) fun v47 =>
 SemH PG (storeS T_sl_store_block v47 v44) h45 fun v48 h49 =>
 (popO (SemP PG (nilS t0)) fun v50 =>
 popO (SemP PG (Instr.fieldAt T_store_Store v50 2)) fun v51 =>
 popO (SemE PG h49 (Instr.loadAt T_uint64 v51)) fun v52 =>
 popO (SemP PG (binOp BinOp.add T_uint64 v52 (Value.int IntKind.u64 1))) fun v53 =>
 popO (SemP PG (nilS t0)) fun v54 =>
 popO (SemP PG (Instr.fieldAt T_store_Store v54 2)) fun v55 =>
 SemH PG (storeS T_uint64 v55 v53) h49 fun v56 h57 =>
 popO (SemP PG (nilS t0)) fun v58 =>
 popO (SemP PG (Instr.fieldAt T_store_Store v58 2)) fun v59 =>
 popO (SemE PG h57 (Instr.loadAt T_uint64 v59)) fun v60 =>
 R (Value.tuple #[v60, (Value.int IntKind.i64 0)]) h57))))
def store_Store_Commit (t0 : Value) (h0 : PH) (R : Value → PH → Prop) : Prop :=
 popO (SemP PG (nilS t0)) fun v1 =>
 popO (SemP PG (Instr.fieldAt T_store_Store v1 2)) fun v2 =>
 popO (SemE PG h0 (Instr.loadAt T_uint64 v2)) fun v3 =>
 popO (SemE PG h0 (binS BinOp.eql T_uint64 (.tmp 11) (.const (Value.int IntKind.u64 18446744073709551615)) v3 (Value.int IntKind.u64 18446744073709551615))) fun v4 =>
 condV v4
 (R (Value.tuple #[(Value.int IntKind.u64 0), (Value.int IntKind.i64 12)]) h0)
 (popO (SemP PG (nilS t0)) fun v5 =>
 popO (SemP PG (Instr.fieldAt T_store_Store v5 1)) fun v6 =>
 popO (SemE PG h0 (Instr.loadAt T_sl_store_block v6)) fun v7 =>
 popO (SemP PG (Builtin.len_ #[T_sl_store_block] T_int #[v7])) fun v8 =>
 popO (SemP PG (binOp BinOp.geq T_int v8 (Value.int IntKind.i64 4096))) fun v9 =>
 condV v9
 (R (Value.tuple #[(Value.int IntKind.u64 0), (Value.int IntKind.i64 2)]) h0)
 (popO (SemP PG (nilS t0)) fun v10 =>
 popO (SemP PG (Instr.fieldAt T_store_Store v10 0)) fun v11 =>
 popO (SemE PG h0 (Instr.loadAt T_map_string_string v11)) fun v12 =>
 SemH PG (Instr.range T_map_string_string v12) h0 fun v13 h14 =>
 LoopL [0, 4, 24] (fun n15 ρ h => store_Store_Commit_b16 R n15 (ρ 0) (ρ 4) (ρ 24) h) [t0, (Value.slice none 0 0), v13] h14))
def store_Store_Commit.ann : Ann := { b := fun i => match i with | 11 => #[0, 0, 2, 6, 14, 0, 32, 0, 128, 480, 992, 2046, 4095, 8191, 16383] | _ => #[], ord := fun i => match i with | 11 => [0, 1, 2, 3, 4, 5, 6, 7, 8, 9, 10, 11, 12, 13, 14] | _ => [], keep := fun i => match i with | 7 => [0, 4, 24] | _ => [], n := 63 }
theorem store_Store_Commit.eq (t0 : Value) (h0 : PH) (R : Value → PH → Prop) : codeF PG store_Store_Commit.ann 200 (bodyOf Tryz.f22) (endH PG Tryz.f22 R) (fun t => (#[t0] : Array Value).getD t undef) h0 = store_Store_Commit t0 h0 R := by kernel_rfl
theorem store_Store_Commit.call {t0 : Value} {h0 : PH} {R : Value → PH → Prop} (H : store_Store_Commit t0 h0 R) : CallsH PG id_store_Store_Commit #[t0] h0 R :=
  callsF_by store_Store_Commit.ann 200 mix Tryz.func22 (by kernel_rfl) (by kernel_rfl) (by kernel_rfl) (by kernel_rfl) (by simp [Tryz.ntmps22]) (store_Store_Commit.eq t0 h0 R) H

def store_Store_Commit_1 (t0 : Value) (t1 : Value) (h0 : PH) (R : Value → PH → Prop) : Prop :=
 ∀ r1, h0 r1 = none → bindH (PH.set h0 r1 (.cells (Value.cells t0) T_api_Pair)) fun h2 =>
 ∀ r3, h2 r3 = none → bindH (PH.set h2 r3 (.cells (Value.cells t1) T_api_Pair)) fun h4 =>
 popO (SemP PG (Instr.fieldAt T_api_Pair (Value.pointer (some ⟨r1, 0, none⟩)) 0)) fun v5 =>
 popO (SemE PG h4 (Instr.loadAt T_string v5)) fun v6 =>
 popO (SemP PG (Instr.fieldAt T_api_Pair (Value.pointer (some ⟨r3, 0, none⟩)) 0)) fun v7 =>
 popO (SemE PG h4 (Instr.loadAt T_string v7)) fun v8 =>
 CallsH PG id_cmp_Compare_string #[v6, v8] h4 fun v9 h10 =>
 R v9 h10
def store_Store_Commit_1.ann : Ann := { b := fun i => match i with  | _ => #[], ord := fun i => match i with  | _ => [], keep := fun i => match i with  | _ => [], n := 10 }
theorem store_Store_Commit_1.eq (t0 : Value) (t1 : Value) (h0 : PH) (R : Value → PH → Prop) : codeF PG store_Store_Commit_1.ann 200 (bodyOf Tryz.f34) (endH PG Tryz.f34 R) (fun t => (#[t0, t1] : Array Value).getD t undef) h0 = store_Store_Commit_1 t0 t1 h0 R := by kernel_rfl
theorem store_Store_Commit_1.call {t0 : Value} {t1 : Value} {h0 : PH} {R : Value → PH → Prop} (H : store_Store_Commit_1 t0 t1 h0 R) : CallsH PG id_store_Store_Commit_1 #[t0, t1] h0 R :=
  callsF_by store_Store_Commit_1.ann 200 mix Tryz.func34 (by kernel_rfl) (by kernel_rfl) (by kernel_rfl) (by kernel_rfl) (by simp [Tryz.ntmps34]) (store_Store_Commit_1.eq t0 t1 h0 R) H

def cmp_Compare_string (t0 : Value) (t1 : Value) (h0 : PH) (R : Value → PH → Prop) : Prop :=
 CallsH PG id_cmp_isNaN_string #[t0] h0 fun v1 h2 =>
 CallsH PG id_cmp_isNaN_string #[t1] h2 fun v3 h4 =>
 condV v1
 (condV v3
 (R (Value.int IntKind.i64 0) h4)
 (R (Value.int IntKind.i64 (-1)) h4))
 (condV v3
 (R (Value.int IntKind.i64 1) h4)
 (popO (SemP PG (binOp BinOp.lss T_string t0 t1)) fun v5 =>
 condV v5
 (R (Value.int IntKind.i64 (-1)) h4)
 (popO (SemP PG (binOp BinOp.gtr T_string t0 t1)) fun v6 =>
 condV v6
 (R (Value.int IntKind.i64 1) h4)
 (R (Value.int IntKind.i64 0) h4))))
def cmp_Compare_string.ann : Ann := { b := fun i => match i with  | _ => #[], ord := fun i => match i with  | _ => [], keep := fun i => match i with  | _ => [], n := 20 }
theorem cmp_Compare_string.eq (t0 : Value) (t1 : Value) (h0 : PH) (R : Value → PH → Prop) : codeF PG cmp_Compare_string.ann 200 (bodyOf Tryz.f35) (endH PG Tryz.f35 R) (fun t => (#[t0, t1] : Array Value).getD t undef) h0 = cmp_Compare_string t0 t1 h0 R := by kernel_rfl
theorem cmp_Compare_string.call {t0 : Value} {t1 : Value} {h0 : PH} {R : Value → PH → Prop} (H : cmp_Compare_string t0 t1 h0 R) : CallsH PG id_cmp_Compare_string #[t0, t1] h0 R :=
  callsF_by cmp_Compare_string.ann 200 mix Tryz.func35 (by kernel_rfl) (by kernel_rfl) (by kernel_rfl) (by kernel_rfl) (by simp [Tryz.ntmps35]) (cmp_Compare_string.eq t0 t1 h0 R) H

def cmp_isNaN_string (t0 : Value) (h0 : PH) (R : Value → PH → Prop) : Prop :=
 popO (SemE PG h0 (binS BinOp.neq T_string (.tmp 3) (.tmp 4) t0 t0)) fun v1 =>
 R v1 h0
def cmp_isNaN_string.ann : Ann := { b := fun i => match i with  | _ => #[], ord := fun i => match i with  | _ => [], keep := fun i => match i with  | _ => [], n := 6 }
theorem cmp_isNaN_string.eq (t0 : Value) (h0 : PH) (R : Value → PH → Prop) : codeF PG cmp_isNaN_string.ann 200 (bodyOf Tryz.f45) (endH PG Tryz.f45 R) (fun t => (#[t0] : Array Value).getD t undef) h0 = cmp_isNaN_string t0 h0 R := by kernel_rfl
theorem cmp_isNaN_string.call {t0 : Value} {h0 : PH} {R : Value → PH → Prop} (H : cmp_isNaN_string t0 h0 R) : CallsH PG id_cmp_isNaN_string #[t0] h0 R :=
  callsF_by cmp_isNaN_string.ann 200 mix Tryz.func45 (by kernel_rfl) (by kernel_rfl) (by kernel_rfl) (by kernel_rfl) (by simp [Tryz.ntmps45]) (cmp_isNaN_string.eq t0 h0 R) H

def carracklaw11_few_b4 (R : Value → PH → Prop) (n3 : List Value → PH → Prop) (t0 : Value) (t3 : Value) (h0 : PH) : Prop :=
 popO (SemP PG (Builtin.len_ #[T_sl_carrackref11_Act] T_int #[t0])) fun v5 =>
 popO (SemP PG (binOp BinOp.lss T_int t3 v5)) fun v6 =>
 condV v6
 (popO (SemP PG (Instr.indexAt T_sl_carrackref11_Act t0 t3)) fun v7 =>
 popO (SemP PG (Instr.fieldAt T_carrackref11_Act v7 1)) fun v8 =>
 popO (SemE PG h0 (Instr.loadAt T_string v8)) fun v9 =>
 popO (SemP PG (Builtin.len_ #[T_string] T_int #[v9])) fun v10 =>
 popO (SemP PG (binOp BinOp.gtr T_int v10 (Value.int IntKind.i64 300))) fun v11 =>
 gopV (yV v11) false (fun k14 => k14 t0 h0) h0 fun v12 h13 =>
 gopV (yV v11) false (fun k17 => k17 t3 h13) h13 fun v15 h16 =>
 gopV (yV v11) false (fun k20 => popO (SemP PG (Instr.indexAt T_sl_carrackref11_Act v12 v15)) fun v21 => k20 v21 h16) h16 fun v18 h19 =>
 gopV (yV v11) false (fun k24 => popO (SemP PG (Instr.fieldAt T_carrackref11_Act v18 2)) fun v25 => k24 v25 h19) h19 fun v22 h23 =>
 gopV (yV v11) false (fun k28 => popO (SemE PG h23 (Instr.loadAt T_string v22)) fun v29 => k28 v29 h23) h23 fun v26 h27 =>
 gopV (yV v11) false (fun k32 => popO (SemP PG (Builtin.len_ #[T_string] T_int #[v26])) fun v33 => k32 v33 h27) h27 fun v30 h31 =>
 gopV (yV v11) false (fun k36 => popO (SemP PG (binOp BinOp.gtr T_int v30 (Value.int IntKind.i64 300))) fun v37 => k36 v37 h31) h31 fun v34 h35 =>
 popO (pickV v11 (Value.bool true) v34) fun v38 =>
 condV v38
 (R (Value.bool false) h35)
 (popO (SemP PG (binOp BinOp.add T_int t3 (Value.int IntKind.i64 1))) fun v39 =>
 n3 [t0, v39] h35))
 (R (Value.bool true) h0)
def carracklaw11_few (t0 : Value) (h0 : PH) (R : Value → PH → Prop) : Prop :=
 popO (SemP PG (Builtin.len_ #[T_sl_carrackref11_Act] T_int #[t0])) fun v1 =>
 popO (SemP PG (binOp BinOp.gtr T_int v1 (Value.int IntKind.i64 60))) fun v2 =>
 condV v2
 (R (Value.bool false) h0)
 (LoopL [0, 3] (fun n3 ρ h => carracklaw11_few_b4 R n3 (ρ 0) (ρ 3) h) [t0, (Value.int IntKind.i64 0)] h0)
def carracklaw11_few.ann : Ann := { b := fun i => match i with  | _ => #[], ord := fun i => match i with  | _ => [], keep := fun i => match i with | 4 => [0, 3] | _ => [], n := 29 }
theorem carracklaw11_few.eq (t0 : Value) (h0 : PH) (R : Value → PH → Prop) : codeF PG carracklaw11_few.ann 200 (bodyOf Tryz.f5) (endH PG Tryz.f5 R) (fun t => (#[t0] : Array Value).getD t undef) h0 = carracklaw11_few t0 h0 R := by kernel_rfl
theorem carracklaw11_few.call {t0 : Value} {h0 : PH} {R : Value → PH → Prop} (H : carracklaw11_few t0 h0 R) : CallsH PG id_carracklaw11_few #[t0] h0 R :=
  callsF_by carracklaw11_few.ann 200 mix Tryz.func5 (by kernel_rfl) (by kernel_rfl) (by kernel_rfl) (by kernel_rfl) (by simp [Tryz.ntmps5]) (carracklaw11_few.eq t0 h0 R) H

def carrackref11_New (t0 : Value) (h0 : PH) (R : Value → PH → Prop) : Prop :=
 popO (SemA PG (Instr.buildSlice T_sl_sl_api_Pair 1 #[(0, (Value.slice none 0 0))])) fun x2 => ∀ r1, h0 r1 = none → popO (SemP PG (x2.2 r1)) fun v3 => bindH (PH.set h0 r1 x2.1) fun h4 =>
 popO (SemP PG (Instr.build T_carrackref11_Store #[(1, t0), (2, v3)])) fun v5 =>
 ∀ r6, h4 r6 = none → bindH (PH.set h4 r6 (.cells (Value.cells v5) T_carrackref11_Store)) fun h7 =>
 R (Value.pointer (some ⟨r6, 0, none⟩)) h7
def carrackref11_New.ann : Ann := { b := fun i => match i with  | _ => #[], ord := fun i => match i with  | _ => [], keep := fun i => match i with  | _ => [], n := 7 }
theorem carrackref11_New.eq (t0 : Value) (h0 : PH) (R : Value → PH → Prop) : codeF PG carrackref11_New.ann 200 (bodyOf Tryz.f7) (endH PG Tryz.f7 R) (fun t => (#[t0] : Array Value).getD t undef) h0 = carrackref11_New t0 h0 R := by kernel_rfl
theorem carrackref11_New.call {t0 : Value} {h0 : PH} {R : Value → PH → Prop} (H : carrackref11_New t0 h0 R) : CallsH PG id_carrackref11_New #[t0] h0 R :=
  callsF_by carrackref11_New.ann 200 mix Tryz.func7 (by kernel_rfl) (by kernel_rfl) (by kernel_rfl) (by kernel_rfl) (by simp [Tryz.ntmps7]) (carrackref11_New.eq t0 h0 R) H

def carracklaw11_do (t0 : Value) (t1 : Value) (t2 : Value) (h0 : PH) (R : Value → PH → Prop) : Prop :=
 ∀ r1, h0 r1 = none → bindH (PH.set h0 r1 (.cells (Value.cells t2) T_carrackref11_Act)) fun h2 =>
 popO (SemP PG (Instr.fieldAt T_carrackref11_Act (Value.pointer (some ⟨r1, 0, none⟩)) 0)) fun v3 =>
 popO (SemE PG h2 (Instr.loadAt T_int v3)) fun v4 =>
 popO (SemE PG h2 (binS BinOp.eql T_int (.tmp 12) (.const (Value.int IntKind.i64 0)) v4 (Value.int IntKind.i64 0))) fun v5 =>
 condV v5
 (popO (SemP PG (Instr.fieldAt T_carrackref11_Act (Value.pointer (some ⟨r1, 0, none⟩)) 1)) fun v6 =>
 popO (SemE PG h2 (Instr.loadAt T_string v6)) fun v7 =>
 popO (SemP PG (Instr.fieldAt T_carrackref11_Act (Value.pointer (some ⟨r1, 0, none⟩)) 2)) fun v8 =>
 popO (SemE PG h2 (Instr.loadAt T_string v8)) fun v9 =>
 popO (SemP PG (Instr.fieldAt T_carrackref11_Act (Value.pointer (some ⟨r1, 0, none⟩)) 1)) fun v10 =>
 popO (SemE PG h2 (Instr.loadAt T_string v10)) fun v11 =>
 popO (SemP PG (Instr.fieldAt T_carrackref11_Act (Value.pointer (some ⟨r1, 0, none⟩)) 2)) fun v12 =>
 popO (SemE PG h2 (Instr.loadAt T_string v12)) fun v13 =>
 CallsH PG id_store_Store_Set #[t0, v7, v9] h2 fun v14 h15 =>
 SemE PG h15 (Instr.loadAt T_string v12) = some v13 ∧ SemE PG h15 (Instr.loadAt T_string v10) = some v11 ∧ (CallsH PG id_carrackref11_Store_Set #[t1, v11, v13] h15 fun v16 h17 =>
 (popO (SemE PG h17 (binS BinOp.eql T_int (.tmp 20) (.tmp 26) v14 v16)) fun v18 =>
 R v18 h17)))
 (popO (SemE PG h2 (binS BinOp.eql T_int (.tmp 12) (.const (Value.int IntKind.i64 1)) v4 (Value.int IntKind.i64 1))) fun v19 =>
 condV v19
 (popO (SemP PG (Instr.fieldAt T_carrackref11_Act (Value.pointer (some ⟨r1, 0, none⟩)) 1)) fun v20 =>
 popO (SemE PG h2 (Instr.loadAt T_string v20)) fun v21 =>
 popO (SemP PG (Instr.fieldAt T_carrackref11_Act (Value.pointer (some ⟨r1, 0, none⟩)) 1)) fun v22 =>
 popO (SemE PG h2 (Instr.loadAt T_string v22)) fun v23 =>
 CallsH PG id_store_Store_Delete #[t0, v21] h2 fun v24 h25 =>
 SemE PG h25 (Instr.loadAt T_string v22) = some v23 ∧ (CallsH PG id_carrackref11_Store_Delete #[t1, v23] h25 fun v26 h27 =>
 (popO (SemE PG h27 (binS BinOp.eql T_int (.tmp 33) (.tmp 37) v24 v26)) fun v28 =>
 R v28 h27)))
 (popO (SemE PG h2 (binS BinOp.eql T_int (.tmp 12) (.const (Value.int IntKind.i64 2)) v4 (Value.int IntKind.i64 2))) fun v29 =>
 condV v29
 (CallsH PG id_store_Store_Commit #[t0] h2 fun v30 h31 =>
 popO (SemP PG (Instr.extract v30 0)) fun v32 =>
 popO (SemP PG (Instr.extract v30 1)) fun v33 =>
 CallsH PG id_carrackref11_Store_Commit #[t1] h31 fun v34 h35 =>
 popO (SemP PG (Instr.extract v34 0)) fun v36 =>
 popO (SemP PG (Instr.extract v34 1)) fun v37 =>
 popO (SemE PG h35 (binS BinOp.eql T_uint64 (.tmp 51) (.tmp 52) v32 v36)) fun v38 =>
 gopV (yV v38) true (fun k41 => k41 v33 h35) h35 fun v39 h40 =>
 gopV (yV v38) true (fun k44 => k44 v37 h40) h40 fun v42 h43 =>
 gopV (yV v38) true (fun k47 => popO (SemE PG h43 (binS BinOp.eql T_int (.tmp 55) (.tmp 56) v39 v42)) fun v48 => k47 v48 h43) h43 fun v45 h46 =>
 popO (pickV v38 v45 (Value.bool false)) fun v49 =>
 R v49 h46)
 (R (Value.bool true) h2)))
def carracklaw11_do.ann : Ann := { b := fun i => match i with | 3 => #[0, 0, 2, 0, 8, 31, 0, 0, 128, 0, 512, 2047, 4095, 8191] | 5 => #[0, 0, 2, 7, 0, 0, 32, 127, 255, 511] | _ => #[], ord := fun i => match i with | 3 => [0, 1, 2, 3, 4, 6, 7, 8, 9, 10, 5, 11, 12, 13] | 5 => [0, 1, 2, 4, 5, 6, 3, 7, 8, 9] | _ => [], keep := fun i => match i with  | _ => [], n := 59 }
theorem carracklaw11_do.eq (t0 : Value) (t1 : Value) (t2 : Value) (h0 : PH) (R : Value → PH → Prop) : codeF PG carracklaw11_do.ann 200 (bodyOf Tryz.f8) (endH PG Tryz.f8 R) (fun t => (#[t0, t1, t2] : Array Value).getD t undef) h0 = carracklaw11_do t0 t1 t2 h0 R := by kernel_rfl
theorem carracklaw11_do.call {t0 : Value} {t1 : Value} {t2 : Value} {h0 : PH} {R : Value → PH → Prop} (H : carracklaw11_do t0 t1 t2 h0 R) : CallsH PG id_carracklaw11_do #[t0, t1, t2] h0 R :=
  callsF_by carracklaw11_do.ann 200 mix Tryz.func8 (by kernel_rfl) (by kernel_rfl) (by kernel_rfl) (by kernel_rfl) (by simp [Tryz.ntmps8]) (carracklaw11_do.eq t0 t1 t2 h0 R) H

def carrackref11_Store_Set_k40 (R : Value → PH → Prop) (t0 : Value) (t1 : Value) (t2 : Value) (t7 : Value) (t9 : Value) (h0 : PH) : Prop :=
 popO (SemA PG (Instr.buildSlice T_sl_api_Pair 0 #[])) fun x42 => ∀ r41, h0 r41 = none → popO (SemP PG (x42.2 r41)) fun v43 => bindH (PH.set h0 r41 x42.1) fun h44 =>
 popO (SemP PG (nilS t0)) fun v45 =>
 popO (SemP PG (Instr.fieldAt T_carrackref11_Store v45 0)) fun v46 =>
 popO (SemE PG h44 (Instr.loadAt T_sl_api_Pair v46)) fun v47 =>
 popO (SemP PG (Instr.sliceAt T_sl_api_Pair v47 none (some t7) none)) fun v48 =>
 SemH PG (Builtin.append_ #[T_sl_api_Pair, T_sl_api_Pair] T_sl_api_Pair #[v43, v48]) h44 fun v49 h50 =>
 popO (SemP PG (Instr.build T_api_Pair #[(0, t1), (1, t2)])) fun v51 =>
 popO (SemA PG (Instr.buildSlice T_sl_api_Pair 1 #[(0, v51)])) fun x53 => ∀ r52, h50 r52 = none → popO (SemP PG (x53.2 r52)) fun v54 => bindH (PH.set h50 r52 x53.1) fun h55 =>
 SemH PG (Builtin.append_ #[T_sl_api_Pair, T_sl_api_Pair] T_sl_api_Pair #[v49, v54]) h55 fun v56 h57 =>
 SemH PG (Builtin.append_ #[T_sl_api_Pair, T_sl_api_Pair] T_sl_api_Pair #[v56, t9]) h57 fun v58 h59 =>
 popO (SemP PG (nilS t0)) fun v60 =>
 popO (SemP PG (Instr.fieldAt T_carrackref11_Store v60 0)) fun v61 =>
 SemH PG (storeS T_sl_api_Pair v61 v58) h59 fun v62 h63 =>
 R (Value.int IntKind.i64 0) h63
def carrackref11_Store_Set (t0 : Value) (t1 : Value) (t2 : Value) (h0 : PH) (R : Value → PH → Prop) : Prop :=
 popO (SemP PG (Builtin.len_ #[T_string] T_int #[t1])) fun v1 =>
 popO (SemE PG h0 (binS BinOp.eql T_int (.tmp 11) (.const (Value.int IntKind.i64 0)) v1 (Value.int IntKind.i64 0))) fun v2 =>
 gopV (yV v2) false (fun k5 => k5 t1 h0) h0 fun v3 h4 =>
 gopV (yV v2) false (fun k8 => popO (SemP PG (Builtin.len_ #[T_string] T_int #[v3])) fun v9 => k8 v9 h4) h4 fun v6 h7 =>
 gopV (yV v2) false (fun k12 => popO (SemP PG (binOp BinOp.gtr T_int v6 (Value.int IntKind.i64 16))) fun v13 => k12 v13 h7) h7 fun v10 h11 =>
 popO (pickV v2 (Value.bool true) v10) fun v14 =>
 gopV (yV v14) false (fun k17 => k17 t2 h11) h11 fun v15 h16 =>
 gopV (yV v14) false (fun k20 => popO (SemP PG (Builtin.len_ #[T_string] T_int #[v15])) fun v21 => k20 v21 h16) h16 fun v18 h19 =>
 gopV (yV v14) false (fun k24 => popO (SemP PG (binOp BinOp.gtr T_int v18 (Value.int IntKind.i64 64))) fun v25 => k24 v25 h19) h19 fun v22 h23 =>
 popO (pickV v14 (Value.bool true) v22) fun v26 =>
 condV v26
 (R (Value.int IntKind.i64 1) h23)
 (CallsH PG id_carrackref11_Store_find #[t0, t1] h23 fun v27 h28 =>
 popO (SemP PG (Instr.extract v27 0)) fun v29 =>
 popO (SemP PG (Instr.extract v27 1)) fun v30 =>
 popO (SemP PG (nilS t0)) fun v31 =>
 popO (SemP PG (Instr.fieldAt T_carrackref11_Store v31 0)) fun v32 =>
 popO (SemE PG h28 (Instr.loadAt T_sl_api_Pair v32)) fun v33 =>
 popO (SemP PG (Instr.sliceAt T_sl_api_Pair v33 (some v29) none none)) fun v34 =>
 condV v30
 (popO (SemP PG (nilS t0)) fun v35 =>
 popO (SemP PG (Instr.fieldAt T_carrackref11_Store v35 0)) fun v36 =>
 popO (SemE PG h28 (Instr.loadAt T_sl_api_Pair v36)) fun v37 =>
 popO (SemP PG (binOp BinOp.add T_int v29 (Value.int IntKind.i64 1))) fun v38 =>
 popO (SemP PG (Instr.sliceAt T_sl_api_Pair v37 (some v38) none none)) fun v39 =>
 carrackref11_Store_Set_k40 R t0 t1 t2 v29 v39 h28)
 (popO (SemP PG (nilS t0)) fun v64 =>
 popO (SemP PG (Instr.fieldAt T_carrackref11_Store v64 0)) fun v65 =>
 popO (SemE PG h28 (Instr.loadAt T_sl_api_Pair v65)) fun v66 =>
 popO (SemP PG (Builtin.len_ #[T_sl_api_Pair] T_int #[v66])) fun v67 =>
 popO (SemP PG (binOp BinOp.geq T_int v67 (Value.int IntKind.i64 4096))) fun v68 =>
 condV v68
 (R (Value.int IntKind.i64 2) h28)
 (carrackref11_Store_Set_k40 R t0 t1 t2 v29 v34 h28)))
def carrackref11_Store_Set.ann : Ann := { b := fun i => match i with  | _ => #[], ord := fun i => match i with  | _ => [], keep := fun i => match i with  | _ => [], n := 67 }
theorem carrackref11_Store_Set.eq (t0 : Value) (t1 : Value) (t2 : Value) (h0 : PH) (R : Value → PH → Prop) : codeF PG carrackref11_Store_Set.ann 200 (bodyOf Tryz.f24) (endH PG Tryz.f24 R) (fun t => (#[t0, t1, t2] : Array Value).getD t undef) h0 = carrackref11_Store_Set t0 t1 t2 h0 R := by kernel_rfl
theorem carrackref11_Store_Set.call {t0 : Value} {t1 : Value} {t2 : Value} {h0 : PH} {R : Value → PH → Prop} (H : carrackref11_Store_Set t0 t1 t2 h0 R) : CallsH PG id_carrackref11_Store_Set #[t0, t1, t2] h0 R :=
  callsF_by carrackref11_Store_Set.ann 200 mix Tryz.func24 (by kernel_rfl) (by kernel_rfl) (by kernel_rfl) (by kernel_rfl) (by simp [Tryz.ntmps24]) (carrackref11_Store_Set.eq t0 t1 t2 h0 R) H

def carrackref11_Store_find_b2 (R : Value → PH → Prop) (n1 : List Value → PH → Prop) (t0 : Value) (t1 : Value) (t6 : Value) (h0 : PH) : Prop :=
 popO (SemP PG (nilS t0)) fun v3 =>
 popO (SemP PG (Instr.fieldAt T_carrackref11_Store v3 0)) fun v4 =>
 popO (SemE PG h0 (Instr.loadAt T_sl_api_Pair v4)) fun v5 =>
 popO (SemP PG (Builtin.len_ #[T_sl_api_Pair] T_int #[v5])) fun v6 =>
 popO (SemP PG (binOp BinOp.lss T_int t6 v6)) fun v7 =>
 gopV (yV v7) true (fun k10 => k10 t0 h0) h0 fun v8 h9 =>
 gopV (yV v7) true (fun k13 => popO (SemP PG (nilS v8)) fun v14 => k13 v14 h9) h9 fun v11 h12 =>
 gopV (yV v7) true (fun k17 => popO (SemP PG (Instr.fieldAt T_carrackref11_Store v11 0)) fun v18 => k17 v18 h12) h12 fun v15 h16 =>
 gopV (yV v7) true (fun k21 => popO (SemE PG h16 (Instr.loadAt T_sl_api_Pair v15)) fun v22 => k21 v22 h16) h16 fun v19 h20 =>
 gopV (yV v7) true (fun k25 => k25 t6 h20) h20 fun v23 h24 =>
 gopV (yV v7) true (fun k28 => popO (SemP PG (Instr.indexAt T_sl_api_Pair v19 v23)) fun v29 => k28 v29 h24) h24 fun v26 h27 =>
 gopV (yV v7) true (fun k32 => popO (SemP PG (Instr.fieldAt T_api_Pair v26 0)) fun v33 => k32 v33 h27) h27 fun v30 h31 =>
 gopV (yV v7) true (fun k36 => popO (SemE PG h31 (Instr.loadAt T_string v30)) fun v37 => k36 v37 h31) h31 fun v34 h35 =>
 gopV (yV v7) true (fun k40 => k40 t1 h35) h35 fun v38 h39 =>
 gopV (yV v7) true (fun k43 => popO (SemP PG (binOp BinOp.lss T_string v34 v38)) fun v44 => k43 v44 h39) h39 fun v41 h42 =>
 popO (pickV v7 v41 (Value.bool false)) fun v45 =>
 condV v45
 (popO (SemP PG (binOp BinOp.add T_int t6 (Value.int IntKind.i64 1))) fun v46 =>
 n1 [t0, t1, v46] h42)
 (popO (SemP PG (nilS t0)) fun v47 =>
 popO (SemP PG (Instr.fieldAt T_carrackref11_Store v47 0)) fun v48 =>
 popO (SemE PG h42 (Instr.loadAt T_sl_api_Pair v48)) fun v49 =>
 popO (SemP PG (Builtin.len_ #[T_sl_api_Pair] T_int #[v49])) fun v50 =>
 popO (SemP PG (binOp BinOp.lss T_int t6 v50)) fun v51 =>
 gopV (yV v51) true (fun k54 => k54 t0 h42) h42 fun v52 h53 =>
 gopV (yV v51) true (fun k57 => popO (SemP PG (nilS v52)) fun v58 => k57 v58 h53) h53 fun v55 h56 =>
 gopV (yV v51) true (fun k61 => popO (SemP PG (Instr.fieldAt T_carrackref11_Store v55 0)) fun v62 => k61 v62 h56) h56 fun v59 h60 =>
 gopV (yV v51) true (fun k65 => popO (SemE PG h60 (Instr.loadAt T_sl_api_Pair v59)) fun v66 => k65 v66 h60) h60 fun v63 h64 =>
 gopV (yV v51) true (fun k69 => k69 t6 h64) h64 fun v67 h68 =>
 gopV (yV v51) true (fun k72 => popO (SemP PG (Instr.indexAt T_sl_api_Pair v63 v67)) fun v73 => k72 v73 h68) h68 fun v70 h71 =>
 gopV (yV v51) true (fun k76 => popO (SemP PG (Instr.fieldAt T_api_Pair v70 0)) fun v77 => k76 v77 h71) h71 fun v74 h75 =>
 gopV (yV v51) true (fun k80 => popO (SemE PG h75 (Instr.loadAt T_string v74)) fun v81 => k80 v81 h75) h75 fun v78 h79 =>
 gopV (yV v51) true (fun k84 => k84 t1 h79) h79 fun v82 h83 =>
 gopV (yV v51) true (fun k87 => popO (SemE PG h83 (binS BinOp.eql T_string (.tmp 44) (.tmp 45) v78 v82)) fun v88 => k87 v88 h83) h83 fun v85 h86 =>
 popO (pickV v51 v85 (Value.bool false)) fun v89 =>
 R (Value.tuple #[t6, v89]) h86)
def carrackref11_Store_find (t0 : Value) (t1 : Value) (h0 : PH) (R : Value → PH → Prop) : Prop :=
 LoopL [0, 1, 6] (fun n1 ρ h => carrackref11_Store_find_b2 R n1 (ρ 0) (ρ 1) (ρ 6) h) [t0, t1, (Value.int IntKind.i64 0)] h0
def carrackref11_Store_find.ann : Ann := { b := fun i => match i with | 4 => #[0, 0, 0, 4, 12, 28, 60, 126, 254, 510, 1022, 2046, 4094, 510, 16382, 32766, 65534, 510, 262142, 524286, 511, 2097151] | _ => #[], ord := fun i => match i with | 4 => [0, 1, 2, 3, 4, 5, 6, 7, 8, 9, 10, 11, 12, 13, 14, 15, 16, 17, 18, 19, 20, 21] | _ => [], keep := fun i => match i with | 2 => [0, 1, 6] | _ => [], n := 48 }
theorem carrackref11_Store_find.eq (t0 : Value) (t1 : Value) (h0 : PH) (R : Value → PH → Prop) : codeF PG carrackref11_Store_find.ann 200 (bodyOf Tryz.f28) (endH PG Tryz.f28 R) (fun t => (#[t0, t1] : Array Value).getD t undef) h0 = carrackref11_Store_find t0 t1 h0 R := by kernel_rfl
theorem carrackref11_Store_find.call {t0 : Value} {t1 : Value} {h0 : PH} {R : Value → PH → Prop} (H : carrackref11_Store_find t0 t1 h0 R) : CallsH PG id_carrackref11_Store_find #[t0, t1] h0 R :=
  callsF_by carrackref11_Store_find.ann 200 mix Tryz.func28 (by kernel_rfl) (by kernel_rfl) (by kernel_rfl) (by kernel_rfl) (by simp [Tryz.ntmps28]) (carrackref11_Store_find.eq t0 t1 h0 R) H

def store_Store_Delete (t0 : Value) (t1 : Value) (h0 : PH) (R : Value → PH → Prop) : Prop :=
 popO (SemP PG (nilS t0)) fun v1 =>
 popO (SemP PG (Instr.fieldAt T_store_Store v1 0)) fun v2 =>
 popO (SemE PG h0 (Instr.loadAt T_map_string_string v2)) fun v3 =>
 popO (SemE PG h0 (Instr.lookup T_map_string_string v3 t1 true)) fun v4 =>
 popO (SemP PG (Instr.extract v4 0)) fun v5 =>
 popO (SemP PG (Instr.extract v4 1)) fun v6 =>
 popO (SemP PG (Op.unary UnOp.not v6)) fun v7 =>
 condV v7
 (R (Value.int IntKind.i64 3) h0)
 (popO (SemP PG (nilS t0)) fun v8 =>
 popO (SemP PG (Instr.fieldAt T_store_Store v8 0)) fun v9 =>
 popO (SemE PG h0 (Instr.loadAt T_map_string_string v9)) fun v10 =>
 SemH PG (Builtin.delete_ #[T_map_string_string, T_string] T_ #[v10, t1]) h0 fun v11 h12 =>
 R (Value.int IntKind.i64 0) h12)
def store_Store_Delete.ann : Ann := { b := fun i => match i with  | _ => #[], ord := fun i => match i with  | _ => [], keep := fun i => match i with  | _ => [], n := 23 }
theorem store_Store_Delete.eq (t0 : Value) (t1 : Value) (h0 : PH) (R : Value → PH → Prop) : codeF PG store_Store_Delete.ann 200 (bodyOf Tryz.f25) (endH PG Tryz.f25 R) (fun t => (#[t0, t1] : Array Value).getD t undef) h0 = store_Store_Delete t0 t1 h0 R := by kernel_rfl
theorem store_Store_Delete.call {t0 : Value} {t1 : Value} {h0 : PH} {R : Value → PH → Prop} (H : store_Store_Delete t0 t1 h0 R) : CallsH PG id_store_Store_Delete #[t0, t1] h0 R :=
  callsF_by store_Store_Delete.ann 200 mix Tryz.func25 (by kernel_rfl) (by kernel_rfl) (by kernel_rfl) (by kernel_rfl) (by simp [Tryz.ntmps25]) (store_Store_Delete.eq t0 t1 h0 R) H

def carrackref11_Store_Delete (t0 : Value) (t1 : Value) (h0 : PH) (R : Value → PH → Prop) : Prop :=
 CallsH PG id_carrackref11_Store_find #[t0, t1] h0 fun v1 h2 =>
 popO (SemP PG (Instr.extract v1 0)) fun v3 =>
 popO (SemP PG (Instr.extract v1 1)) fun v4 =>
 popO (SemP PG (Op.unary UnOp.not v4)) fun v5 =>
 condV v5
 (R (Value.int IntKind.i64 3) h2)
 (popO (SemP PG (nilS t0)) fun v6 =>
 popO (SemP PG (Instr.fieldAt T_carrackref11_Store v6 0)) fun v7 =>
 popO (SemE PG h2 (Instr.loadAt T_sl_api_Pair v7)) fun v8 =>
 popO (SemP PG (Instr.sliceAt T_sl_api_Pair v8 none (some v3) none)) fun v9 =>
 popO (SemP PG (nilS t0)) fun v10 =>
 popO (SemP PG (Instr.fieldAt T_carrackref11_Store v10 0)) fun v11 =>
 popO (SemE PG h2 (Instr.loadAt T_sl_api_Pair v11)) fun v12 =>
 popO (SemP PG (binOp BinOp.add T_int v3 (Value.int IntKind.i64 1))) fun v13 =>
 popO (SemP PG (Instr.sliceAt T_sl_api_Pair v12 (some v13) none none)) fun v14 =>
 popO (SemA PG (Instr.buildSlice T_sl_api_Pair 0 #[])) fun x16 => ∀ r15, h2 r15 = none → popO (SemP PG (x16.2 r15)) fun v17 => bindH (PH.set h2 r15 x16.1) fun h18 =>
 SemH PG (Builtin.append_ #[T_sl_api_Pair, T_sl_api_Pair] T_sl_api_Pair #[v17, v9]) h18 fun v19 h20 =>
 SemE PG h20 (Instr.loadAt T_sl_api_Pair v11) = some v12 ∧ (SemH PG (Builtin.append_ #[T_sl_api_Pair, T_sl_api_Pair] T_sl_api_Pair #[v19, v14]) h20 fun v21 h22 =>
 (popO (SemP PG (nilS t0)) fun v23 =>
 popO (SemP PG (Instr.fieldAt T_carrackref11_Store v23 0)) fun v24 =>
 SemH PG (storeS T_sl_api_Pair v24 v21) h22 fun v25 h26 =>
 (R (Value.int IntKind.i64 0) h26))))
def carrackref11_Store_Delete.ann : Ann := { b := fun i => match i with | 4 => #[0, 0, 0, 4, 12, 28, 0, 124, 254, 0, 512, 1536, 3584, 0, 8192, 32256, 65534, 131071, 262143, 524287] | _ => #[], ord := fun i => match i with | 4 => [0, 2, 3, 4, 5, 6, 7, 9, 10, 11, 12, 13, 14, 15, 1, 8, 16, 17, 18, 19] | _ => [], keep := fun i => match i with  | _ => [], n := 34 }
theorem carrackref11_Store_Delete.eq (t0 : Value) (t1 : Value) (h0 : PH) (R : Value → PH → Prop) : codeF PG carrackref11_Store_Delete.ann 200 (bodyOf Tryz.f26) (endH PG Tryz.f26 R) (fun t => (#[t0, t1] : Array Value).getD t undef) h0 = carrackref11_Store_Delete t0 t1 h0 R := by kernel_rfl
theorem carrackref11_Store_Delete.call {t0 : Value} {t1 : Value} {h0 : PH} {R : Value → PH → Prop} (H : carrackref11_Store_Delete t0 t1 h0 R) : CallsH PG id_carrackref11_Store_Delete #[t0, t1] h0 R :=
  callsF_by carrackref11_Store_Delete.ann 200 mix Tryz.func26 (by kernel_rfl) (by kernel_rfl) (by kernel_rfl) (by kernel_rfl) (by simp [Tryz.ntmps26]) (carrackref11_Store_Delete.eq t0 t1 h0 R) H

def carrackref11_Store_Commit (t0 : Value) (h0 : PH) (R : Value → PH → Prop) : Prop :=
 CallsH PG id_carrackref11_Store_Height #[t0] h0 fun v1 h2 =>
 popO (SemP PG (binOp BinOp.add T_uint64 v1 (Value.int IntKind.u64 1))) fun v3 =>
 popO (SemE PG h2 (binS BinOp.eql T_uint64 (.tmp 6) (.const (Value.int IntKind.u64 0)) v3 (Value.int IntKind.u64 0))) fun v4 =>
 condV v4
 (R (Value.tuple #[(Value.int IntKind.u64 0), (Value.int IntKind.i64 12)]) h2)
 (popO (SemP PG (nilS t0)) fun v5 =>
 popO (SemP PG (Instr.fieldAt T_carrackref11_Store v5 2)) fun v6 =>
 popO (SemE PG h2 (Instr.loadAt T_sl_sl_api_Pair v6)) fun v7 =>
 popO (SemP PG (Builtin.len_ #[T_sl_sl_api_Pair] T_int #[v7])) fun v8 =>
 popO (SemP PG (binOp BinOp.geq T_int v8 (Value.int IntKind.i64 4096))) fun v9 =>
 condV v9
 (R (Value.tuple #[(Value.int IntKind.u64 0), (Value.int IntKind.i64 2)]) h2)
 (popO (SemP PG (nilS t0)) fun v10 =>
 popO (SemP PG (Instr.fieldAt T_carrackref11_Store v10 2)) fun v11 =>
 popO (SemE PG h2 (Instr.loadAt T_sl_sl_api_Pair v11)) fun v12 =>
 popO (SemP PG (nilS t0)) fun v13 =>
 popO (SemP PG (Instr.fieldAt T_carrackref11_Store v13 0)) fun v14 =>
 popO (SemE PG h2 (Instr.loadAt T_sl_api_Pair v14)) fun v15 =>
 popO (SemA PG (Instr.buildSlice T_sl_sl_api_Pair 0 #[])) fun x17 => ∀ r16, h2 r16 = none → popO (SemP PG (x17.2 r16)) fun v18 => bindH (PH.set h2 r16 x17.1) fun h19 =>
 SemH PG (Builtin.append_ #[T_sl_sl_api_Pair, T_sl_sl_api_Pair] T_sl_sl_api_Pair #[v18, v12]) h19 fun v20 h21 =>
 SemE PG h21 (Instr.loadAt T_sl_api_Pair v14) = some v15 ∧ (popO (SemA PG (Instr.buildSlice T_sl_sl_api_Pair 1 #[(0, v15)])) fun x23 => ∀ r22, h21 r22 = none → popO (SemP PG (x23.2 r22)) fun v24 => bindH (PH.set h21 r22 x23.1) fun h25 =>
 SemH PG (Builtin.append_ #[T_sl_sl_api_Pair, T_sl_sl_api_Pair] T_sl_sl_api_Pair #[v20, v24]) h25 fun v26 h27 =>
 (popO (SemP PG (nilS t0)) fun v28 =>
 popO (SemP PG (Instr.fieldAt T_carrackref11_Store v28 2)) fun v29 =>
 SemH PG (storeS T_sl_sl_api_Pair v29 v26) h27 fun v30 h31 =>
 (CallsH PG id_carrackref11_Store_Height #[t0] h31 fun v32 h33 =>
 R (Value.tuple #[v32, (Value.int IntKind.i64 0)]) h33)))))
def carrackref11_Store_Commit.ann : Ann := { b := fun i => match i with | 5 => #[0, 0, 0, 4, 12, 28, 62, 0, 128, 384, 896, 1920, 4094, 8191, 16383, 32767] | _ => #[], ord := fun i => match i with | 5 => [0, 2, 3, 4, 5, 7, 8, 9, 10, 1, 6, 11, 12, 13, 14, 15] | _ => [], keep := fun i => match i with  | _ => [], n := 31 }
theorem carrackref11_Store_Commit.eq (t0 : Value) (h0 : PH) (R : Value → PH → Prop) : codeF PG carrackref11_Store_Commit.ann 200 (bodyOf Tryz.f27) (endH PG Tryz.f27 R) (fun t => (#[t0] : Array Value).getD t undef) h0 = carrackref11_Store_Commit t0 h0 R := by kernel_rfl
theorem carrackref11_Store_Commit.call {t0 : Value} {h0 : PH} {R : Value → PH → Prop} (H : carrackref11_Store_Commit t0 h0 R) : CallsH PG id_carrackref11_Store_Commit #[t0] h0 R :=
  callsF_by carrackref11_Store_Commit.ann 200 mix Tryz.func27 (by kernel_rfl) (by kernel_rfl) (by kernel_rfl) (by kernel_rfl) (by simp [Tryz.ntmps27]) (carrackref11_Store_Commit.eq t0 h0 R) H

def carrackref11_Store_Height (t0 : Value) (h0 : PH) (R : Value → PH → Prop) : Prop :=
 popO (SemP PG (nilS t0)) fun v1 =>
 popO (SemP PG (Instr.fieldAt T_carrackref11_Store v1 1)) fun v2 =>
 popO (SemE PG h0 (Instr.loadAt T_uint64 v2)) fun v3 =>
 popO (SemP PG (nilS t0)) fun v4 =>
 popO (SemP PG (Instr.fieldAt T_carrackref11_Store v4 2)) fun v5 =>
 popO (SemE PG h0 (Instr.loadAt T_sl_sl_api_Pair v5)) fun v6 =>
 popO (SemP PG (Builtin.len_ #[T_sl_sl_api_Pair] T_int #[v6])) fun v7 =>
 popO (SemP PG (binOp BinOp.sub T_int v7 (Value.int IntKind.i64 1))) fun v8 =>
 popO (SemP PG (convert T_int T_uint64 v8)) fun v9 =>
 popO (SemP PG (binOp BinOp.add T_uint64 v3 v9)) fun v10 =>
 R v10 h0
def carrackref11_Store_Height.ann : Ann := { b := fun i => match i with | 1 => #[0, 1, 3, 7, 0, 16, 48, 112, 240, 496, 1008, 2047, 4095] | _ => #[], ord := fun i => match i with | 1 => [0, 1, 2, 3, 4, 5, 6, 7, 8, 9, 10, 11, 12] | _ => [], keep := fun i => match i with  | _ => [], n := 15 }
theorem carrackref11_Store_Height.eq (t0 : Value) (h0 : PH) (R : Value → PH → Prop) : codeF PG carrackref11_Store_Height.ann 200 (bodyOf Tryz.f10) (endH PG Tryz.f10 R) (fun t => (#[t0] : Array Value).getD t undef) h0 = carrackref11_Store_Height t0 h0 R := by kernel_rfl
theorem carrackref11_Store_Height.call {t0 : Value} {h0 : PH} {R : Value → PH → Prop} (H : carrackref11_Store_Height t0 h0 R) : CallsH PG id_carrackref11_Store_Height #[t0] h0 R :=
  callsF_by carrackref11_Store_Height.ann 200 mix Tryz.func10 (by kernel_rfl) (by kernel_rfl) (by kernel_rfl) (by kernel_rfl) (by simp [Tryz.ntmps10]) (carrackref11_Store_Height.eq t0 h0 R) H

def store_Store_Height (t0 : Value) (h0 : PH) (R : Value → PH → Prop) : Prop :=
 popO (SemP PG (nilS t0)) fun v1 =>
 popO (SemP PG (Instr.fieldAt T_store_Store v1 2)) fun v2 =>
 popO (SemE PG h0 (Instr.loadAt T_uint64 v2)) fun v3 =>
 R v3 h0
def store_Store_Height.ann : Ann := { b := fun i => match i with  | _ => #[], ord := fun i => match i with  | _ => [], keep := fun i => match i with  | _ => [], n := 7 }
theorem store_Store_Height.eq (t0 : Value) (h0 : PH) (R : Value → PH → Prop) : codeF PG store_Store_Height.ann 200 (bodyOf Tryz.f9) (endH PG Tryz.f9 R) (fun t => (#[t0] : Array Value).getD t undef) h0 = store_Store_Height t0 h0 R := by kernel_rfl
theorem store_Store_Height.call {t0 : Value} {h0 : PH} {R : Value → PH → Prop} (H : store_Store_Height t0 h0 R) : CallsH PG id_store_Store_Height #[t0] h0 R :=
  callsF_by store_Store_Height.ann 200 mix Tryz.func9 (by kernel_rfl) (by kernel_rfl) (by kernel_rfl) (by kernel_rfl) (by simp [Tryz.ntmps9]) (store_Store_Height.eq t0 h0 R) H

def store_Store_Len (t0 : Value) (h0 : PH) (R : Value → PH → Prop) : Prop :=
 popO (SemP PG (nilS t0)) fun v1 =>
 popO (SemP PG (Instr.fieldAt T_store_Store v1 0)) fun v2 =>
 popO (SemE PG h0 (Instr.loadAt T_map_string_string v2)) fun v3 =>
 popO (SemE PG h0 (Builtin.len_ #[T_map_string_string] T_int #[v3])) fun v4 =>
 R v4 h0
def store_Store_Len.ann : Ann := { b := fun i => match i with  | _ => #[], ord := fun i => match i with  | _ => [], keep := fun i => match i with  | _ => [], n := 8 }
theorem store_Store_Len.eq (t0 : Value) (h0 : PH) (R : Value → PH → Prop) : codeF PG store_Store_Len.ann 200 (bodyOf Tryz.f11) (endH PG Tryz.f11 R) (fun t => (#[t0] : Array Value).getD t undef) h0 = store_Store_Len t0 h0 R := by kernel_rfl
theorem store_Store_Len.call {t0 : Value} {h0 : PH} {R : Value → PH → Prop} (H : store_Store_Len t0 h0 R) : CallsH PG id_store_Store_Len #[t0] h0 R :=
  callsF_by store_Store_Len.ann 200 mix Tryz.func11 (by kernel_rfl) (by kernel_rfl) (by kernel_rfl) (by kernel_rfl) (by simp [Tryz.ntmps11]) (store_Store_Len.eq t0 h0 R) H

def store_Store_Get (t0 : Value) (t1 : Value) (h0 : PH) (R : Value → PH → Prop) : Prop :=
 popO (SemP PG (nilS t0)) fun v1 =>
 popO (SemP PG (Instr.fieldAt T_store_Store v1 0)) fun v2 =>
 popO (SemE PG h0 (Instr.loadAt T_map_string_string v2)) fun v3 =>
 popO (SemE PG h0 (Instr.lookup T_map_string_string v3 t1 true)) fun v4 =>
 popO (SemP PG (Instr.extract v4 0)) fun v5 =>
 popO (SemP PG (Instr.extract v4 1)) fun v6 =>
 R (Value.tuple #[v5, v6]) h0
def store_Store_Get.ann : Ann := { b := fun i => match i with  | _ => #[], ord := fun i => match i with  | _ => [], keep := fun i => match i with  | _ => [], n := 19 }
theorem store_Store_Get.eq (t0 : Value) (t1 : Value) (h0 : PH) (R : Value → PH → Prop) : codeF PG store_Store_Get.ann 200 (bodyOf Tryz.f13) (endH PG Tryz.f13 R) (fun t => (#[t0, t1] : Array Value).getD t undef) h0 = store_Store_Get t0 t1 h0 R := by kernel_rfl
theorem store_Store_Get.call {t0 : Value} {t1 : Value} {h0 : PH} {R : Value → PH → Prop} (H : store_Store_Get t0 t1 h0 R) : CallsH PG id_store_Store_Get #[t0, t1] h0 R :=
  callsF_by store_Store_Get.ann 200 mix Tryz.func13 (by kernel_rfl) (by kernel_rfl) (by kernel_rfl) (by kernel_rfl) (by simp [Tryz.ntmps13]) (store_Store_Get.eq t0 t1 h0 R) H

def carrackref11_Store_Get (t0 : Value) (t1 : Value) (h0 : PH) (R : Value → PH → Prop) : Prop :=
 CallsH PG id_carrackref11_Store_find #[t0, t1] h0 fun v1 h2 =>
 popO (SemP PG (Instr.extract v1 0)) fun v3 =>
 popO (SemP PG (Instr.extract v1 1)) fun v4 =>
 popO (SemP PG (Op.unary UnOp.not v4)) fun v5 =>
 condV v5
 (R (Value.tuple #[(Value.string { data := #[] }), (Value.bool false)]) h2)
 (popO (SemP PG (nilS t0)) fun v6 =>
 popO (SemP PG (Instr.fieldAt T_carrackref11_Store v6 0)) fun v7 =>
 popO (SemE PG h2 (Instr.loadAt T_sl_api_Pair v7)) fun v8 =>
 popO (SemP PG (Instr.indexAt T_sl_api_Pair v8 v3)) fun v9 =>
 popO (SemP PG (Instr.fieldAt T_api_Pair v9 1)) fun v10 =>
 popO (SemE PG h2 (Instr.loadAt T_string v10)) fun v11 =>
 R (Value.tuple #[v11, (Value.bool true)]) h2)
def carrackref11_Store_Get.ann : Ann := { b := fun i => match i with  | _ => #[], ord := fun i => match i with  | _ => [], keep := fun i => match i with  | _ => [], n := 24 }
theorem carrackref11_Store_Get.eq (t0 : Value) (t1 : Value) (h0 : PH) (R : Value → PH → Prop) : codeF PG carrackref11_Store_Get.ann 200 (bodyOf Tryz.f14) (endH PG Tryz.f14 R) (fun t => (#[t0, t1] : Array Value).getD t undef) h0 = carrackref11_Store_Get t0 t1 h0 R := by kernel_rfl
theorem carrackref11_Store_Get.call {t0 : Value} {t1 : Value} {h0 : PH} {R : Value → PH → Prop} (H : carrackref11_Store_Get t0 t1 h0 R) : CallsH PG id_carrackref11_Store_Get #[t0, t1] h0 R :=
  callsF_by carrackref11_Store_Get.ann 200 mix Tryz.func14 (by kernel_rfl) (by kernel_rfl) (by kernel_rfl) (by kernel_rfl) (by simp [Tryz.ntmps14]) (carrackref11_Store_Get.eq t0 t1 h0 R) H

def carrackref11_Store_At (t0 : Value) (t1 : Value) (h0 : PH) (R : Value → PH → Prop) : Prop :=
 popO (SemP PG (nilS t0)) fun v1 =>
 popO (SemP PG (Instr.fieldAt T_carrackref11_Store v1 1)) fun v2 =>
 popO (SemE PG h0 (Instr.loadAt T_uint64 v2)) fun v3 =>
 popO (SemP PG (binOp BinOp.lss T_uint64 t1 v3)) fun v4 =>
 gopV (yV v4) false (fun k7 => k7 t1 h0) h0 fun v5 h6 =>
 gopV (yV v4) false (fun k10 => k10 t0 h6) h6 fun v8 h9 =>
 gopV (yV v4) false (fun k13 => CallsH PG id_carrackref11_Store_Height #[v8] h9 fun v14 h15 => k13 v14 h15) h9 fun v11 h12 =>
 gopV (yV v4) false (fun k18 => popO (SemP PG (binOp BinOp.gtr T_uint64 v5 v11)) fun v19 => k18 v19 h12) h12 fun v16 h17 =>
 popO (pickV v4 (Value.bool true) v16) fun v20 =>
 condV v20
 (R (Value.tuple #[(Value.slice none 0 0), (Value.int IntKind.i64 3)]) h17)
 (popO (SemP PG (nilS t0)) fun v21 =>
 popO (SemP PG (Instr.fieldAt T_carrackref11_Store v21 2)) fun v22 =>
 popO (SemE PG h17 (Instr.loadAt T_sl_sl_api_Pair v22)) fun v23 =>
 popO (SemP PG (nilS t0)) fun v24 =>
 popO (SemP PG (Instr.fieldAt T_carrackref11_Store v24 1)) fun v25 =>
 popO (SemE PG h17 (Instr.loadAt T_uint64 v25)) fun v26 =>
 popO (SemP PG (binOp BinOp.sub T_uint64 t1 v26)) fun v27 =>
 popO (SemP PG (Instr.indexAt T_sl_sl_api_Pair v23 v27)) fun v28 =>
 popO (SemE PG h17 (Instr.loadAt T_sl_api_Pair v28)) fun v29 =>
 R (Value.tuple #[v29, (Value.int IntKind.i64 0)]) h17)
def carrackref11_Store_At.ann : Ann := { b := fun i => match i with | 3 => #[0, 1, 3, 7, 0, 0, 32, 96, 224, 496, 1023, 2047, 4095, 8191] | _ => #[], ord := fun i => match i with | 3 => [0, 1, 2, 3, 4, 5, 6, 7, 8, 9, 10, 11, 12, 13] | _ => [], keep := fun i => match i with  | _ => [], n := 30 }
theorem carrackref11_Store_At.eq (t0 : Value) (t1 : Value) (h0 : PH) (R : Value → PH → Prop) : codeF PG carrackref11_Store_At.ann 200 (bodyOf Tryz.f16) (endH PG Tryz.f16 R) (fun t => (#[t0, t1] : Array Value).getD t undef) h0 = carrackref11_Store_At t0 t1 h0 R := by kernel_rfl
theorem carrackref11_Store_At.call {t0 : Value} {t1 : Value} {h0 : PH} {R : Value → PH → Prop} (H : carrackref11_Store_At t0 t1 h0 R) : CallsH PG id_carrackref11_Store_At #[t0, t1] h0 R :=
  callsF_by carrackref11_Store_At.ann 200 mix Tryz.func16 (by kernel_rfl) (by kernel_rfl) (by kernel_rfl) (by kernel_rfl) (by simp [Tryz.ntmps16]) (carrackref11_Store_At.eq t0 t1 h0 R) H

def carrackref11_Pairs_b5 (R : Value → PH → Prop) (n4 : List Value → PH → Prop) (t0 : Value) (t1 : Value) (t5 : Value) (h0 : PH) : Prop :=
 popO (SemP PG (Builtin.len_ #[T_sl_api_Pair] T_int #[t0])) fun v6 =>
 popO (SemP PG (binOp BinOp.lss T_int t5 v6)) fun v7 =>
 condV v7
 (popO (SemP PG (Instr.indexAt T_sl_api_Pair t0 t5)) fun v8 =>
 popO (SemE PG h0 (Instr.loadAt T_api_Pair v8)) fun v9 =>
 popO (SemP PG (Instr.indexAt T_sl_api_Pair t1 t5)) fun v10 =>
 popO (SemE PG h0 (Instr.loadAt T_api_Pair v10)) fun v11 =>
 popO (SemE PG h0 (binS BinOp.neq T_api_Pair (.tmp 20) (.tmp 24) v9 v11)) fun v12 =>
 condV v12
 (R (Value.bool false) h0)
 (popO (SemP PG (binOp BinOp.add T_int t5 (Value.int IntKind.i64 1))) fun v13 =>
 n4 [t0, t1, v13] h0))
 (R (Value.bool true) h0)
def carrackref11_Pairs (t0 : Value) (t1 : Value) (h0 : PH) (R : Value → PH → Prop) : Prop :=
 popO (SemP PG (Builtin.len_ #[T_sl_api_Pair] T_int #[t0])) fun v1 =>
 popO (SemP PG (Builtin.len_ #[T_sl_api_Pair] T_int #[t1])) fun v2 =>
 popO (SemE PG h0 (binS BinOp.neq T_int (.tmp 7) (.tmp 9) v1 v2)) fun v3 =>
 condV v3
 (R (Value.bool false) h0)
 (LoopL [0, 1, 5] (fun n4 ρ h => carrackref11_Pairs_b5 R n4 (ρ 0) (ρ 1) (ρ 5) h) [t0, t1, (Value.int IntKind.i64 0)] h0)
def carrackref11_Pairs.ann : Ann := { b := fun i => match i with | 6 => #[0, 0, 3, 7, 0, 0, 48, 112, 255] | _ => #[], ord := fun i => match i with | 6 => [0, 1, 2, 3, 4, 5, 6, 7, 8] | _ => [], keep := fun i => match i with | 4 => [0, 1, 5] | _ => [], n := 26 }
theorem carrackref11_Pairs.eq (t0 : Value) (t1 : Value) (h0 : PH) (R : Value → PH → Prop) : codeF PG carrackref11_Pairs.ann 200 (bodyOf Tryz.f17) (endH PG Tryz.f17 R) (fun t => (#[t0, t1] : Array Value).getD t undef) h0 = carrackref11_Pairs t0 t1 h0 R := by kernel_rfl
theorem carrackref11_Pairs.call {t0 : Value} {t1 : Value} {h0 : PH} {R : Value → PH → Prop} (H : carrackref11_Pairs t0 t1 h0 R) : CallsH PG id_carrackref11_Pairs #[t0, t1] h0 R :=
  callsF_by carrackref11_Pairs.ann 200 mix Tryz.func17 (by kernel_rfl) (by kernel_rfl) (by kernel_rfl) (by kernel_rfl) (by simp [Tryz.ntmps17]) (carrackref11_Pairs.eq t0 t1 h0 R) H

def store_Store_Root (t0 : Value) (t1 : Value) (h0 : PH) (R : Value → PH → Prop) : Prop :=
 CallsH PG id_store_Store_at #[t0, t1] h0 fun v1 h2 =>
 popO (SemP PG (Instr.extract v1 0)) fun v3 =>
 popO (SemP PG (Instr.extract v1 1)) fun v4 =>
 ∀ r5, h2 r5 = none → bindH (PH.set h2 r5 (.cells (zcells PG T_store_block) T_store_block)) fun h6 =>
 SemH PG (storeS T_store_block (Value.pointer (some ⟨r5, 0, none⟩)) v3) h6 fun v7 h8 =>
 popO (SemP PG (Instr.fieldAt T_store_block (Value.pointer (some ⟨r5, 0, none⟩)) 1)) fun v9 =>
 popO (SemE PG h8 (Instr.loadAt T_string v9)) fun v10 =>
 R (Value.tuple #[v10, v4]) h8
def store_Store_Root.ann : Ann := { b := fun i => match i with  | _ => #[], ord := fun i => match i with  | _ => [], keep := fun i => match i with  | _ => [], n := 17 }
theorem store_Store_Root.eq (t0 : Value) (t1 : Value) (h0 : PH) (R : Value → PH → Prop) : codeF PG store_Store_Root.ann 200 (bodyOf Tryz.f18) (endH PG Tryz.f18 R) (fun t => (#[t0, t1] : Array Value).getD t undef) h0 = store_Store_Root t0 t1 h0 R := by kernel_rfl
theorem store_Store_Root.call {t0 : Value} {t1 : Value} {h0 : PH} {R : Value → PH → Prop} (H : store_Store_Root t0 t1 h0 R) : CallsH PG id_store_Store_Root #[t0, t1] h0 R :=
  callsF_by store_Store_Root.ann 200 mix Tryz.func18 (by kernel_rfl) (by kernel_rfl) (by kernel_rfl) (by kernel_rfl) (by simp [Tryz.ntmps18]) (store_Store_Root.eq t0 t1 h0 R) H

def carrackref11_Store_Root (t0 : Value) (t1 : Value) (t2 : Value) (h0 : PH) (R : Value → PH → Prop) : Prop :=
 CallsH PG id_carrackref11_Store_At #[t0, t2] h0 fun v1 h2 =>
 popO (SemP PG (Instr.extract v1 0)) fun v3 =>
 popO (SemP PG (Instr.extract v1 1)) fun v4 =>
 popO (SemE PG h2 (binS BinOp.neq T_int (.tmp 16) (.const (Value.int IntKind.i64 0)) v4 (Value.int IntKind.i64 0))) fun v5 =>
 condV v5
 (R (Value.tuple #[(Value.string { data := #[] }), v4]) h2)
 (CallsH PG id_carrackref08_Root #[t1, v3] h2 fun v6 h7 =>
 R (Value.tuple #[v6, (Value.int IntKind.i64 0)]) h7)
def carrackref11_Store_Root.ann : Ann := { b := fun i => match i with  | _ => #[], ord := fun i => match i with  | _ => [], keep := fun i => match i with  | _ => [], n := 22 }
theorem carrackref11_Store_Root.eq (t0 : Value) (t1 : Value) (t2 : Value) (h0 : PH) (R : Value → PH → Prop) : codeF PG carrackref11_Store_Root.ann 200 (bodyOf Tryz.f19) (endH PG Tryz.f19 R) (fun t => (#[t0, t1, t2] : Array Value).getD t undef) h0 = carrackref11_Store_Root t0 t1 t2 h0 R := by kernel_rfl
theorem carrackref11_Store_Root.call {t0 : Value} {t1 : Value} {t2 : Value} {h0 : PH} {R : Value → PH → Prop} (H : carrackref11_Store_Root t0 t1 t2 h0 R) : CallsH PG id_carrackref11_Store_Root #[t0, t1, t2] h0 R :=
  callsF_by carrackref11_Store_Root.ann 200 mix Tryz.func19 (by kernel_rfl) (by kernel_rfl) (by kernel_rfl) (by kernel_rfl) (by simp [Tryz.ntmps19]) (carrackref11_Store_Root.eq t0 t1 t2 h0 R) H

def carrackref08_Root (t0 : Value) (t1 : Value) (h0 : PH) (R : Value → PH → Prop) : Prop :=
 popO (SemP PG (Builtin.len_ #[T_sl_api_Pair] T_int #[t1])) fun v1 =>
 popO (SemE PG h0 (binS BinOp.eql T_int (.tmp 6) (.const (Value.int IntKind.i64 0)) v1 (Value.int IntKind.i64 0))) fun v2 =>
 condV v2
 (CallsH PG id_carrackref08_Top #[t0, (Value.int IntKind.i64 0), (Value.string { data := #[] })] h0 fun v3 h4 =>
 R v3 h4)
 (popO (SemP PG (Builtin.len_ #[T_sl_api_Pair] T_int #[t1])) fun v5 =>
 CallsH PG id_carrackref08_Digest #[t0, t1] h0 fun v6 h7 =>
 CallsH PG id_carrackref08_Top #[t0, v5, v6] h7 fun v8 h9 =>
 R v8 h9)
def carrackref08_Root.ann : Ann := { b := fun i => match i with  | _ => #[], ord := fun i => match i with  | _ => [], keep := fun i => match i with  | _ => [], n := 17 }
theorem carrackref08_Root.eq (t0 : Value) (t1 : Value) (h0 : PH) (R : Value → PH → Prop) : codeF PG carrackref08_Root.ann 200 (bodyOf Tryz.f31) (endH PG Tryz.f31 R) (fun t => (#[t0, t1] : Array Value).getD t undef) h0 = carrackref08_Root t0 t1 h0 R := by kernel_rfl
theorem carrackref08_Root.call {t0 : Value} {t1 : Value} {h0 : PH} {R : Value → PH → Prop} (H : carrackref08_Root t0 t1 h0 R) : CallsH PG id_carrackref08_Root #[t0, t1] h0 R :=
  callsF_by carrackref08_Root.ann 200 mix Tryz.func31 (by kernel_rfl) (by kernel_rfl) (by kernel_rfl) (by kernel_rfl) (by simp [Tryz.ntmps31]) (carrackref08_Root.eq t0 t1 h0 R) H

def carrackref08_Top_k2 (R : Value → PH → Prop) (t0 : Value) (t1 : Value) (t2 : Value) (h0 : PH) : Prop :=
 popO (SemP PG (convert T_int T_uint64 t1)) fun v3 =>
 CallsH PG id_carrackref03_Bytes #[v3, (Value.int IntKind.i64 8)] h0 fun v4 h5 =>
 popO (SemP PG (binOp BinOp.add T_string (Value.string { data := #[2] }) v4)) fun v6 =>
 popO (SemP PG (binOp BinOp.add T_string v6 t2)) fun v7 =>
 CallsH PG id_carrackref01_Book_Sum #[t0, v7] h5 fun v8 h9 =>
 R v8 h9
def carrackref08_Top (t0 : Value) (t1 : Value) (t2 : Value) (h0 : PH) (R : Value → PH → Prop) : Prop :=
 popO (SemP PG (binOp BinOp.lss T_int t1 (Value.int IntKind.i64 0))) fun v1 =>
 condV v1
 (carrackref08_Top_k2 R t0 (Value.int IntKind.i64 0) t2 h0)
 (carrackref08_Top_k2 R t0 t1 t2 h0)
def carrackref08_Top.ann : Ann := { b := fun i => match i with  | _ => #[], ord := fun i => match i with  | _ => [], keep := fun i => match i with  | _ => [], n := 17 }
theorem carrackref08_Top.eq (t0 : Value) (t1 : Value) (t2 : Value) (h0 : PH) (R : Value → PH → Prop) : codeF PG carrackref08_Top.ann 200 (bodyOf Tryz.f39) (endH PG Tryz.f39 R) (fun t => (#[t0, t1, t2] : Array Value).getD t undef) h0 = carrackref08_Top t0 t1 t2 h0 R := by kernel_rfl
theorem carrackref08_Top.call {t0 : Value} {t1 : Value} {t2 : Value} {h0 : PH} {R : Value → PH → Prop} (H : carrackref08_Top t0 t1 t2 h0 R) : CallsH PG id_carrackref08_Top #[t0, t1, t2] h0 R :=
  callsF_by carrackref08_Top.ann 200 mix Tryz.func39 (by kernel_rfl) (by kernel_rfl) (by kernel_rfl) (by kernel_rfl) (by simp [Tryz.ntmps39]) (carrackref08_Top.eq t0 t1 t2 h0 R) H

def carrackref01_Book_Sum (t0 : Value) (t1 : Value) (h0 : PH) (R : Value → PH → Prop) : Prop :=
 CallsH PG id_carrackref01_Book_Digest #[t0, t1] h0 fun v1 h2 =>
 popO (SemP PG (nilS t0)) fun v3 =>
 popO (SemP PG (Instr.fieldAt T_carrackref01_Book v3 2)) fun v4 =>
 popO (SemE PG h2 (Instr.loadAt T_map_string_string v4)) fun v5 =>
 popO (SemE PG h2 (Instr.lookup T_map_string_string v5 v1 true)) fun v6 =>
 popO (SemP PG (Instr.extract v6 0)) fun v7 =>
 popO (SemP PG (Instr.extract v6 1)) fun v8 =>
 popO (SemP PG (nilS t0)) fun v9 =>
 popO (SemP PG (Instr.fieldAt T_carrackref01_Book v9 3)) fun v10 =>
 popO (SemE PG h2 (Instr.loadAt T_bool v10)) fun v11 =>
 gopV (yV v11) false (fun k14 => k14 v8 h2) h2 fun v12 h13 =>
 gopV (yV v11) false (fun k17 => k17 v12 h13) h13 fun v15 h16 =>
 gopV (yV v15) true (fun k20 => k20 v7 h16) h16 fun v18 h19 =>
 gopV (yV v15) true (fun k23 => k23 t1 h19) h19 fun v21 h22 =>
 gopV (yV v15) true (fun k26 => popO (SemE PG h22 (binS BinOp.neq T_string (.tmp 28) (.tmp 29) v18 v21)) fun v27 => k26 v27 h22) h22 fun v24 h25 =>
 gopV (yV v11) false (fun k30 => popO (pickV v15 v24 (Value.bool false)) fun v31 => k30 v31 h25) h25 fun v28 h29 =>
 popO (pickV v11 (Value.bool true) v28) fun v32 =>
 popO (SemP PG (nilS t0)) fun v33 =>
 popO (SemP PG (Instr.fieldAt T_carrackref01_Book v33 3)) fun v34 =>
 SemH PG (storeS T_bool v34 v32) h29 fun v35 h36 =>
 popO (SemP PG (nilS t0)) fun v37 =>
 popO (SemP PG (Instr.fieldAt T_carrackref01_Book v37 2)) fun v38 =>
 popO (SemE PG h36 (Instr.loadAt T_map_string_string v38)) fun v39 =>
 SemH PG (mapUpdS T_map_string_string v39 v1 t1) h36 fun v40 h41 =>
 R v1 h41
def carrackref01_Book_Sum.ann : Ann := { b := fun i => match i with  | _ => #[], ord := fun i => match i with  | _ => [], keep := fun i => match i with  | _ => [], n := 42 }
theorem carrackref01_Book_Sum.eq (t0 : Value) (t1 : Value) (h0 : PH) (R : Value → PH → Prop) : codeF PG carrackref01_Book_Sum.ann 200 (bodyOf Tryz.f51) (endH PG Tryz.f51 R) (fun t => (#[t0, t1] : Array Value).getD t undef) h0 = carrackref01_Book_Sum t0 t1 h0 R := by kernel_rfl
theorem carrackref01_Book_Sum.call {t0 : Value} {t1 : Value} {h0 : PH} {R : Value → PH → Prop} (H : carrackref01_Book_Sum t0 t1 h0 R) : CallsH PG id_carrackref01_Book_Sum #[t0, t1] h0 R :=
  callsF_by carrackref01_Book_Sum.ann 200 mix Tryz.func51 (by kernel_rfl) (by kernel_rfl) (by kernel_rfl) (by kernel_rfl) (by simp [Tryz.ntmps51]) (carrackref01_Book_Sum.eq t0 t1 h0 R) H

def carrackref01_Book_Digest_b19 (R : Value → PH → Prop) (n18 : List Value → PH → Prop) (t6 : Value) (t8 : Value) (t9 : Value) (h0 : PH) : Prop :=
 popO (SemP PG (binOp BinOp.lss T_int t9 (Value.int IntKind.i64 8))) fun v20 =>
 condV v20
 (popO (SemP PG (Instr.indexAt T_sl_uint32 t6 t9)) fun v21 =>
 popO (SemE PG h0 (Instr.loadAt T_uint32 v21)) fun v22 =>
 popO (SemP PG (binOp BinOp.shr T_uint32 v22 (Value.int IntKind.u64 24))) fun v23 =>
 popO (SemP PG (convert T_uint32 T_uint8 v23)) fun v24 =>
 popO (SemP PG (Instr.indexAt T_sl_uint32 t6 t9)) fun v25 =>
 popO (SemE PG h0 (Instr.loadAt T_uint32 v25)) fun v26 =>
 popO (SemP PG (binOp BinOp.shr T_uint32 v26 (Value.int IntKind.u64 16))) fun v27 =>
 popO (SemP PG (convert T_uint32 T_uint8 v27)) fun v28 =>
 popO (SemP PG (Instr.indexAt T_sl_uint32 t6 t9)) fun v29 =>
 popO (SemE PG h0 (Instr.loadAt T_uint32 v29)) fun v30 =>
 popO (SemP PG (binOp BinOp.shr T_uint32 v30 (Value.int IntKind.u64 8))) fun v31 =>
 popO (SemP PG (convert T_uint32 T_uint8 v31)) fun v32 =>
 popO (SemP PG (Instr.indexAt T_sl_uint32 t6 t9)) fun v33 =>
 popO (SemE PG h0 (Instr.loadAt T_uint32 v33)) fun v34 =>
 popO (SemP PG (convert T_uint32 T_uint8 v34)) fun v35 =>
 popO (SemA PG (Instr.buildSlice T_sl_uint8 4 #[(0, v24), (1, v28), (2, v32), (3, v35)])) fun x37 => ∀ r36, h0 r36 = none → popO (SemP PG (x37.2 r36)) fun v38 => bindH (PH.set h0 r36 x37.1) fun h39 =>
 SemH PG (Builtin.append_ #[T_sl_uint8, T_sl_uint8] T_sl_uint8 #[t8, v38]) h39 fun v40 h41 =>
 (popO (SemP PG (binOp BinOp.add T_int t9 (Value.int IntKind.i64 1))) fun v42 =>
 n18 [t6, v40, v42] h41))
 (popO (SemE PG h0 (convert T_sl_uint8 T_string t8)) fun v43 =>
 R v43 h0)
def carrackref01_Book_Digest_b7 (R : Value → PH → Prop) (n6 : List Value → PH → Prop) (t0 : Value) (t5 : Value) (t6 : Value) (t7 : Value) (h0 : PH) : Prop :=
 popO (SemP PG (Builtin.len_ #[T_string] T_int #[t5])) fun v8 =>
 popO (SemP PG (binOp BinOp.lss T_int t7 v8)) fun v9 =>
 condV v9
 (popO (SemP PG (binOp BinOp.add T_int t7 (Value.int IntKind.i64 64))) fun v10 =>
 popO (SemP PG (Instr.sliceAt T_string t5 (some t7) (some v10) none)) fun v11 =>
 popO (SemP PG (nilS t0)) fun v12 =>
 popO (SemP PG (Instr.fieldAt T_carrackref01_Book v12 0)) fun v13 =>
 popO (SemE PG h0 (Instr.loadAt T_sl_uint32 v13)) fun v14 =>
 CallsH PG id_carrackref01_block #[v11, v14, t6] h0 fun v15 h16 =>
 (popO (SemP PG (binOp BinOp.add T_int t7 (Value.int IntKind.i64 64))) fun v17 =>
 n6 [t0, t5, v15, v17] h16))
 (LoopL [6, 8, 9] (fun n18 ρ h => carrackref01_Book_Digest_b19 R n18 (ρ 6) (ρ 8) (ρ 9) h) [t6, (Value.slice none 0 0), (Value.int IntKind.i64 0)] h0)
def carrackref01_Book_Digest (t0 : Value) (t1 : Value) (h0 : PH) (R : Value → PH → Prop) : Prop :=
 CallsH PG id_carrackref01_Pad #[t1] h0 fun v1 h2 =>
 popO (SemP PG (nilS t0)) fun v3 =>
 popO (SemP PG (Instr.fieldAt T_carrackref01_Book v3 1)) fun v4 =>
 popO (SemE PG h2 (Instr.loadAt T_sl_uint32 v4)) fun v5 =>
 LoopL [0, 5, 6, 7] (fun n6 ρ h => carrackref01_Book_Digest_b7 R n6 (ρ 0) (ρ 5) (ρ 6) (ρ 7) h) [t0, v1, v5, (Value.int IntKind.i64 0)] h2
def carrackref01_Book_Digest.ann : Ann := { b := fun i => match i with | 6 => #[0, 0, 0, 4, 15, 0, 32, 96, 224, 0, 1023, 2047] | 11 => #[0, 0, 0, 6, 14, 30, 62, 0, 0, 384, 896, 1920, 3968, 0, 0, 24576, 57344, 122880, 253952, 0, 0, 1572864, 3670016, 7864320, 16777214, 33554431, 67108863] | _ => #[], ord := fun i => match i with | 6 => [0, 1, 2, 3, 4, 5, 6, 7, 8, 9, 10, 11] | 11 => [0, 1, 2, 3, 4, 5, 6, 7, 8, 9, 10, 11, 12, 13, 14, 15, 16, 17, 18, 19, 20, 21, 22, 23, 24, 25, 26] | _ => [], keep := fun i => match i with | 4 => [0, 5, 6, 7] | 9 => [6, 8, 9] | _ => [], n := 65 }
theorem carrackref01_Book_Digest.eq (t0 : Value) (t1 : Value) (h0 : PH) (R : Value → PH → Prop) : codeF PG carrackref01_Book_Digest.ann 200 (bodyOf Tryz.f69) (endH PG Tryz.f69 R) (fun t => (#[t0, t1] : Array Value).getD t undef) h0 = carrackref01_Book_Digest t0 t1 h0 R := by kernel_rfl
theorem carrackref01_Book_Digest.call {t0 : Value} {t1 : Value} {h0 : PH} {R : Value → PH → Prop} (H : carrackref01_Book_Digest t0 t1 h0 R) : CallsH PG id_carrackref01_Book_Digest #[t0, t1] h0 R :=
  callsF_by carrackref01_Book_Digest.ann 200 mix Tryz.func69 (by kernel_rfl) (by kernel_rfl) (by kernel_rfl) (by kernel_rfl) (by simp [Tryz.ntmps69]) (carrackref01_Book_Digest.eq t0 t1 h0 R) H

def carrackref01_Pad_b26 (R : Value → PH → Prop) (n25 : List Value → PH → Prop) (t0 : Value) (t3 : Value) (t4 : Value) (t5 : Value) (h0 : PH) : Prop :=
 popO (SemP PG (binOp BinOp.geq T_int t5 (Value.int IntKind.i64 0))) fun v27 =>
 condV v27
 (popO (SemP PG (binOp BinOp.rem T_uint64 t3 (Value.int IntKind.u64 256))) fun v28 =>
 popO (SemP PG (convert T_uint64 T_uint8 v28)) fun v29 =>
 popO (SemP PG (Instr.indexAt T_sl_uint8 t4 t5)) fun v30 =>
 SemH PG (storeS T_uint8 v30 v29) h0 fun v31 h32 =>
 popO (SemP PG (binOp BinOp.quo T_uint64 t3 (Value.int IntKind.u64 256))) fun v33 =>
 popO (SemP PG (binOp BinOp.sub T_int t5 (Value.int IntKind.i64 1))) fun v34 =>
 n25 [t0, v33, t4, v34] h32)
 (popO (SemE PG h0 (convert T_sl_uint8 T_string t4)) fun v35 =>
 popO (SemP PG (binOp BinOp.add T_string t0 v35)) fun v36 =>
 R v36 h0)
def carrackref01_Pad_b11 (R : Value → PH → Prop) (n10 : List Value → PH → Prop) (t0 : Value) (t3 : Value) (h0 : PH) : Prop :=
 popO (SemP PG (Builtin.len_ #[T_string] T_int #[t0])) fun v12 =>
 popO (SemP PG (binOp BinOp.rem T_int v12 (Value.int IntKind.i64 64))) fun v13 =>
 popO (SemE PG h0 (binS BinOp.neq T_int (.tmp 16) (.const (Value.int IntKind.i64 56)) v13 (Value.int IntKind.i64 56))) fun v14 =>
 condV v14
 (popO (SemA PG (Instr.buildSlice T_sl_uint8 1 #[(0, (Value.int IntKind.u8 0))])) fun x16 => ∀ r15, h0 r15 = none → popO (SemP PG (x16.2 r15)) fun v17 => bindH (PH.set h0 r15 x16.1) fun h18 =>
 popO (SemE PG h18 (convert T_sl_uint8 T_string v17)) fun v19 =>
 popO (SemP PG (binOp BinOp.add T_string t0 v19)) fun v20 =>
 n10 [v20, t3] h18)
 (popO (SemA PG (Instr.makeSlice T_sl_uint8 (Value.int IntKind.i64 8) (Value.int IntKind.i64 8))) fun x22 => ∀ r21, h0 r21 = none → popO (SemP PG (x22.2 r21)) fun v23 => bindH (PH.set h0 r21 x22.1) fun h24 =>
 LoopL [0, 3, 4, 5] (fun n25 ρ h => carrackref01_Pad_b26 R n25 (ρ 0) (ρ 3) (ρ 4) (ρ 5) h) [t0, t3, v23, (Value.int IntKind.i64 7)] h24)
def carrackref01_Pad (t0 : Value) (h0 : PH) (R : Value → PH → Prop) : Prop :=
 popO (SemP PG (Builtin.len_ #[T_string] T_int #[t0])) fun v1 =>
 popO (SemP PG (convert T_int T_uint64 v1)) fun v2 =>
 popO (SemP PG (binOp BinOp.mul T_uint64 v2 (Value.int IntKind.u64 8))) fun v3 =>
 popO (SemA PG (Instr.buildSlice T_sl_uint8 1 #[(0, (Value.int IntKind.u8 128))])) fun x5 => ∀ r4, h0 r4 = none → popO (SemP PG (x5.2 r4)) fun v6 => bindH (PH.set h0 r4 x5.1) fun h7 =>
 popO (SemE PG h7 (convert T_sl_uint8 T_string v6)) fun v8 =>
 popO (SemP PG (binOp BinOp.add T_string t0 v8)) fun v9 =>
 LoopL [0, 3] (fun n10 ρ h => carrackref01_Pad_b11 R n10 (ρ 0) (ρ 3) h) [v9, v3] h7
def carrackref01_Pad.ann : Ann := { b := fun i => match i with  | _ => #[], ord := fun i => match i with  | _ => [], keep := fun i => match i with | 3 => [0, 3] | 7 => [0, 3, 4, 5] | _ => [], n := 39 }
theorem carrackref01_Pad.eq (t0 : Value) (h0 : PH) (R : Value → PH → Prop) : codeF PG carrackref01_Pad.ann 200 (bodyOf Tryz.f84) (endH PG Tryz.f84 R) (fun t => (#[t0] : Array Value).getD t undef) h0 = carrackref01_Pad t0 h0 R := by kernel_rfl
theorem carrackref01_Pad.call {t0 : Value} {h0 : PH} {R : Value → PH → Prop} (H : carrackref01_Pad t0 h0 R) : CallsH PG id_carrackref01_Pad #[t0] h0 R :=
  callsF_by carrackref01_Pad.ann 200 mix Tryz.func84 (by kernel_rfl) (by kernel_rfl) (by kernel_rfl) (by kernel_rfl) (by simp [Tryz.ntmps84]) (carrackref01_Pad.eq t0 h0 R) H

def carrackref01_block_b148 (R : Value → PH → Prop) (n147 : List Value → PH → Prop) (t2 : Value) (t12 : Value) (t22 : Value) (t23 : Value) (h0 : PH) : Prop :=
 popO (SemP PG (binOp BinOp.lss T_int t23 (Value.int IntKind.i64 8))) fun v149 =>
 condV v149
 (popO (SemP PG (Instr.indexAt T_sl_uint32 t2 t23)) fun v150 =>
 popO (SemE PG h0 (Instr.loadAt T_uint32 v150)) fun v151 =>
 popO (SemP PG (Instr.indexAt T_sl_uint32 t12 t23)) fun v152 =>
 popO (SemE PG h0 (Instr.loadAt T_uint32 v152)) fun v153 =>
 popO (SemP PG (binOp BinOp.add T_uint32 v151 v153)) fun v154 =>
 popO (SemA PG (Instr.buildSlice T_sl_uint32 1 #[(0, v154)])) fun x156 => ∀ r155, h0 r155 = none → popO (SemP PG (x156.2 r155)) fun v157 => bindH (PH.set h0 r155 x156.1) fun h158 =>
 SemH PG (Builtin.append_ #[T_sl_uint32, T_sl_uint32] T_sl_uint32 #[t22, v157]) h158 fun v159 h160 =>
 (popO (SemP PG (binOp BinOp.add T_int t23 (Value.int IntKind.i64 1))) fun v161 =>
 n147 [t2, t12, v159, v161] h160))
 (R t22 h0)
def carrackref01_block_b88 (R : Value → PH → Prop) (n87 : List Value → PH → Prop) (t1 : Value) (t2 : Value) (t7 : Value) (t12 : Value) (t13 : Value) (h0 : PH) : Prop :=
 popO (SemP PG (binOp BinOp.lss T_int t13 (Value.int IntKind.i64 64))) fun v89 =>
 condV v89
 (popO (SemP PG (Instr.indexAt T_sl_uint32 t12 (Value.int IntKind.i64 0))) fun v90 =>
 popO (SemE PG h0 (Instr.loadAt T_uint32 v90)) fun v91 =>
 popO (SemP PG (Instr.indexAt T_sl_uint32 t12 (Value.int IntKind.i64 1))) fun v92 =>
 popO (SemE PG h0 (Instr.loadAt T_uint32 v92)) fun v93 =>
 popO (SemP PG (Instr.indexAt T_sl_uint32 t12 (Value.int IntKind.i64 2))) fun v94 =>
 popO (SemE PG h0 (Instr.loadAt T_uint32 v94)) fun v95 =>
 popO (SemP PG (Instr.indexAt T_sl_uint32 t12 (Value.int IntKind.i64 4))) fun v96 =>
 popO (SemE PG h0 (Instr.loadAt T_uint32 v96)) fun v97 =>
 popO (SemP PG (Instr.indexAt T_sl_uint32 t12 (Value.int IntKind.i64 5))) fun v98 =>
 popO (SemE PG h0 (Instr.loadAt T_uint32 v98)) fun v99 =>
 popO (SemP PG (Instr.indexAt T_sl_uint32 t12 (Value.int IntKind.i64 6))) fun v100 =>
 popO (SemE PG h0 (Instr.loadAt T_uint32 v100)) fun v101 =>
 popO (SemP PG (Instr.indexAt T_sl_uint32 t12 (Value.int IntKind.i64 7))) fun v102 =>
 popO (SemE PG h0 (Instr.loadAt T_uint32 v102)) fun v103 =>
 popO (SemP PG (binOp BinOp.and T_uint32 v97 v99)) fun v104 =>
 popO (SemP PG (binOp BinOp.sub T_uint32 (Value.int IntKind.u32 4294967295) v97)) fun v105 =>
 popO (SemP PG (binOp BinOp.and T_uint32 v105 v101)) fun v106 =>
 popO (SemP PG (binOp BinOp.xor T_uint32 v104 v106)) fun v107 =>
 popO (SemP PG (Instr.indexAt T_sl_uint32 t1 t13)) fun v108 =>
 popO (SemE PG h0 (Instr.loadAt T_uint32 v108)) fun v109 =>
 popO (SemP PG (Instr.indexAt T_sl_uint32 t7 t13)) fun v110 =>
 popO (SemE PG h0 (Instr.loadAt T_uint32 v110)) fun v111 =>
 CallsH PG id_carrackref01_right #[v97, (Value.int IntKind.i64 6)] h0 fun v112 h113 =>
 SemE PG h113 (Instr.loadAt T_uint32 v110) = some v111 ∧ SemE PG h113 (Instr.loadAt T_uint32 v108) = some v109 ∧ SemE PG h113 (Instr.loadAt T_uint32 v102) = some v103 ∧ (CallsH PG id_carrackref01_right #[v97, (Value.int IntKind.i64 11)] h113 fun v114 h115 =>
 SemE PG h115 (Instr.loadAt T_uint32 v110) = some v111 ∧ SemE PG h115 (Instr.loadAt T_uint32 v108) = some v109 ∧ SemE PG h115 (Instr.loadAt T_uint32 v102) = some v103 ∧ (popO (SemP PG (binOp BinOp.xor T_uint32 v112 v114)) fun v116 =>
 CallsH PG id_carrackref01_right #[v97, (Value.int IntKind.i64 25)] h115 fun v117 h118 =>
 SemE PG h118 (Instr.loadAt T_uint32 v110) = some v111 ∧ SemE PG h118 (Instr.loadAt T_uint32 v108) = some v109 ∧ SemE PG h118 (Instr.loadAt T_uint32 v102) = some v103 ∧ (popO (SemP PG (binOp BinOp.xor T_uint32 v116 v117)) fun v119 =>
 popO (SemP PG (binOp BinOp.add T_uint32 v103 v119)) fun v120 =>
 popO (SemP PG (binOp BinOp.add T_uint32 v120 v107)) fun v121 =>
 popO (SemP PG (binOp BinOp.add T_uint32 v121 v109)) fun v122 =>
 popO (SemP PG (binOp BinOp.add T_uint32 v122 v111)) fun v123 =>
 CallsH PG id_carrackref01_right #[v91, (Value.int IntKind.i64 2)] h118 fun v124 h125 =>
 CallsH PG id_carrackref01_right #[v91, (Value.int IntKind.i64 13)] h125 fun v126 h127 =>
 popO (SemP PG (binOp BinOp.xor T_uint32 v124 v126)) fun v128 =>
 CallsH PG id_carrackref01_right #[v91, (Value.int IntKind.i64 22)] h127 fun v129 h130 =>
 popO (SemP PG (binOp BinOp.xor T_uint32 v128 v129)) fun v131 =>
 popO (SemP PG (binOp BinOp.and T_uint32 v91 v93)) fun v132 =>
 popO (SemP PG (binOp BinOp.and T_uint32 v91 v95)) fun v133 =>
 popO (SemP PG (binOp BinOp.xor T_uint32 v132 v133)) fun v134 =>
 popO (SemP PG (binOp BinOp.and T_uint32 v93 v95)) fun v135 =>
 popO (SemP PG (binOp BinOp.xor T_uint32 v134 v135)) fun v136 =>
 popO (SemP PG (binOp BinOp.add T_uint32 v131 v136)) fun v137 =>
 popO (SemP PG (binOp BinOp.add T_uint32 v123 v137)) fun v138 =>
 popO (SemP PG (Instr.indexAt T_sl_uint32 t12 (Value.int IntKind.i64 3))) fun v139 =>
 popO (SemE PG h130 (Instr.loadAt T_uint32 v139)) fun v140 =>
 popO (SemP PG (binOp BinOp.add T_uint32 v140 v123)) fun v141 =>
 popO (SemA PG (Instr.buildSlice T_sl_uint32 8 #[(0, v138), (1, v91), (2, v93), (3, v95), (4, v141), (5, v97), (6, v99), (7, v101)])) fun x143 => ∀ r142, h130 r142 = none → popO (SemP PG (x143.2 r142)) fun v144 => bindH (PH.set h130 r142 x143.1) fun h145 =>
 popO (SemP PG (binOp BinOp.add T_int t13 (Value.int IntKind.i64 1))) fun v146 =>
 n87 [t1, t2, t7, v144, v146] h145))))
 (LoopL [2, 12, 22, 23] (fun n147 ρ h => carrackref01_block_b148 R n147 (ρ 2) (ρ 12) (ρ 22) (ρ 23) h) [t2, t12, (Value.slice none 0 0), (Value.int IntKind.i64 0)] h0)
def carrackref01_block_b34 (R : Value → PH → Prop) (n33 : List Value → PH → Prop) (t1 : Value) (t2 : Value) (t7 : Value) (t9 : Value) (h0 : PH) : Prop :=
 popO (SemP PG (binOp BinOp.lss T_int t9 (Value.int IntKind.i64 64))) fun v35 =>
 condV v35
 (popO (SemP PG (binOp BinOp.sub T_int t9 (Value.int IntKind.i64 15))) fun v36 =>
 popO (SemP PG (Instr.indexAt T_sl_uint32 t7 v36)) fun v37 =>
 popO (SemE PG h0 (Instr.loadAt T_uint32 v37)) fun v38 =>
 popO (SemP PG (binOp BinOp.sub T_int t9 (Value.int IntKind.i64 15))) fun v39 =>
 popO (SemP PG (Instr.indexAt T_sl_uint32 t7 v39)) fun v40 =>
 popO (SemE PG h0 (Instr.loadAt T_uint32 v40)) fun v41 =>
 popO (SemP PG (binOp BinOp.sub T_int t9 (Value.int IntKind.i64 15))) fun v42 =>
 popO (SemP PG (Instr.indexAt T_sl_uint32 t7 v42)) fun v43 =>
 popO (SemE PG h0 (Instr.loadAt T_uint32 v43)) fun v44 =>
 popO (SemP PG (binOp BinOp.shr T_uint32 v44 (Value.int IntKind.u64 3))) fun v45 =>
 CallsH PG id_carrackref01_right #[v38, (Value.int IntKind.i64 7)] h0 fun v46 h47 =>
 SemE PG h47 (Instr.loadAt T_uint32 v43) = some v44 ∧ SemE PG h47 (Instr.loadAt T_uint32 v40) = some v41 ∧ (CallsH PG id_carrackref01_right #[v41, (Value.int IntKind.i64 18)] h47 fun v48 h49 =>
 SemE PG h49 (Instr.loadAt T_uint32 v43) = some v44 ∧ (popO (SemP PG (binOp BinOp.xor T_uint32 v46 v48)) fun v50 =>
 popO (SemP PG (binOp BinOp.xor T_uint32 v50 v45)) fun v51 =>
 popO (SemP PG (binOp BinOp.sub T_int t9 (Value.int IntKind.i64 2))) fun v52 =>
 popO (SemP PG (Instr.indexAt T_sl_uint32 t7 v52)) fun v53 =>
 popO (SemE PG h49 (Instr.loadAt T_uint32 v53)) fun v54 =>
 popO (SemP PG (binOp BinOp.sub T_int t9 (Value.int IntKind.i64 2))) fun v55 =>
 popO (SemP PG (Instr.indexAt T_sl_uint32 t7 v55)) fun v56 =>
 popO (SemE PG h49 (Instr.loadAt T_uint32 v56)) fun v57 =>
 popO (SemP PG (binOp BinOp.sub T_int t9 (Value.int IntKind.i64 2))) fun v58 =>
 popO (SemP PG (Instr.indexAt T_sl_uint32 t7 v58)) fun v59 =>
 popO (SemE PG h49 (Instr.loadAt T_uint32 v59)) fun v60 =>
 popO (SemP PG (binOp BinOp.shr T_uint32 v60 (Value.int IntKind.u64 10))) fun v61 =>
 CallsH PG id_carrackref01_right #[v54, (Value.int IntKind.i64 17)] h49 fun v62 h63 =>
 SemE PG h63 (Instr.loadAt T_uint32 v59) = some v60 ∧ SemE PG h63 (Instr.loadAt T_uint32 v56) = some v57 ∧ (CallsH PG id_carrackref01_right #[v57, (Value.int IntKind.i64 19)] h63 fun v64 h65 =>
 SemE PG h65 (Instr.loadAt T_uint32 v59) = some v60 ∧ (popO (SemP PG (binOp BinOp.xor T_uint32 v62 v64)) fun v66 =>
 popO (SemP PG (binOp BinOp.xor T_uint32 v66 v61)) fun v67 =>
 popO (SemP PG (binOp BinOp.sub T_int t9 (Value.int IntKind.i64 7))) fun v68 =>
 popO (SemP PG (Instr.indexAt T_sl_uint32 t7 v68)) fun v69 =>
 popO (SemE PG h65 (Instr.loadAt T_uint32 v69)) fun v70 =>
 popO (SemP PG (binOp BinOp.add T_uint32 v67 v70)) fun v71 =>
 popO (SemP PG (binOp BinOp.add T_uint32 v71 v51)) fun v72 =>
 popO (SemP PG (binOp BinOp.sub T_int t9 (Value.int IntKind.i64 16))) fun v73 =>
 popO (SemP PG (Instr.indexAt T_sl_uint32 t7 v73)) fun v74 =>
 popO (SemE PG h65 (Instr.loadAt T_uint32 v74)) fun v75 =>
 popO (SemP PG (binOp BinOp.add T_uint32 v72 v75)) fun v76 =>
 popO (SemP PG (Instr.indexAt T_sl_uint32 t7 t9)) fun v77 =>
 SemH PG (storeS T_uint32 v77 v76) h65 fun v78 h79 =>
 (popO (SemP PG (binOp BinOp.add T_int t9 (Value.int IntKind.i64 1))) fun v80 =>
 n33 [t1, t2, t7, v80] h79))))))
 (popO (SemA PG (Instr.buildSlice T_sl_uint32 0 #[])) fun x82 => ∀ r81, h0 r81 = none → popO (SemP PG (x82.2 r81)) fun v83 => bindH (PH.set h0 r81 x82.1) fun h84 =>
 SemH PG (Builtin.append_ #[T_sl_uint32, T_sl_uint32] T_sl_uint32 #[v83, t2]) h84 fun v85 h86 =>
 LoopL [1, 2, 7, 12, 13] (fun n87 ρ h => carrackref01_block_b88 R n87 (ρ 1) (ρ 2) (ρ 7) (ρ 12) (ρ 13) h) [t1, t2, t7, v85, (Value.int IntKind.i64 0)] h86)
def carrackref01_block_b6 (R : Value → PH → Prop) (n5 : List Value → PH → Prop) (t0 : Value) (t1 : Value) (t2 : Value) (t7 : Value) (t8 : Value) (h0 : PH) : Prop :=
 popO (SemP PG (binOp BinOp.lss T_int t8 (Value.int IntKind.i64 16))) fun v7 =>
 condV v7
 (popO (SemP PG (binOp BinOp.mul T_int (Value.int IntKind.i64 4) t8)) fun v8 =>
 popO (SemP PG (Instr.index T_string t0 v8)) fun v9 =>
 popO (SemP PG (convert T_uint8 T_uint32 v9)) fun v10 =>
 popO (SemP PG (binOp BinOp.mul T_uint32 v10 (Value.int IntKind.u32 16777216))) fun v11 =>
 popO (SemP PG (binOp BinOp.mul T_int (Value.int IntKind.i64 4) t8)) fun v12 =>
 popO (SemP PG (binOp BinOp.add T_int v12 (Value.int IntKind.i64 1))) fun v13 =>
 popO (SemP PG (Instr.index T_string t0 v13)) fun v14 =>
 popO (SemP PG (convert T_uint8 T_uint32 v14)) fun v15 =>
 popO (SemP PG (binOp BinOp.mul T_uint32 v15 (Value.int IntKind.u32 65536))) fun v16 =>
 popO (SemP PG (binOp BinOp.add T_uint32 v11 v16)) fun v17 =>
 popO (SemP PG (binOp BinOp.mul T_int (Value.int IntKind.i64 4) t8)) fun v18 =>
 popO (SemP PG (binOp BinOp.add T_int v18 (Value.int IntKind.i64 2))) fun v19 =>
 popO (SemP PG (Instr.index T_string t0 v19)) fun v20 =>
 popO (SemP PG (convert T_uint8 T_uint32 v20)) fun v21 =>
 popO (SemP PG (binOp BinOp.mul T_uint32 v21 (Value.int IntKind.u32 256))) fun v22 =>
 popO (SemP PG (binOp BinOp.add T_uint32 v17 v22)) fun v23 =>
 popO (SemP PG (binOp BinOp.mul T_int (Value.int IntKind.i64 4) t8)) fun v24 =>
 popO (SemP PG (binOp BinOp.add T_int v24 (Value.int IntKind.i64 3))) fun v25 =>
 popO (SemP PG (Instr.index T_string t0 v25)) fun v26 =>
 popO (SemP PG (convert T_uint8 T_uint32 v26)) fun v27 =>
 popO (SemP PG (binOp BinOp.add T_uint32 v23 v27)) fun v28 =>
 popO (SemP PG (Instr.indexAt T_sl_uint32 t7 t8)) fun v29 =>
 SemH PG (storeS T_uint32 v29 v28) h0 fun v30 h31 =>
 (popO (SemP PG (binOp BinOp.add T_int t8 (Value.int IntKind.i64 1))) fun v32 =>
 n5 [t0, t1, t2, t7, v32] h31))
 (LoopL [1, 2, 7, 9] (fun n33 ρ h => carrackref01_block_b34 R n33 (ρ 1) (ρ 2) (ρ 7) (ρ 9) h) [t1, t2, t7, (Value.int IntKind.i64 16)] h0)
def carrackref01_block (t0 : Value) (t1 : Value) (t2 : Value) (h0 : PH) (R : Value → PH → Prop) : Prop :=
 popO (SemA PG (Instr.makeSlice T_sl_uint32 (Value.int IntKind.i64 64) (Value.int IntKind.i64 64))) fun x2 => ∀ r1, h0 r1 = none → popO (SemP PG (x2.2 r1)) fun v3 => bindH (PH.set h0 r1 x2.1) fun h4 =>
 LoopL [0, 1, 2, 7, 8] (fun n5 ρ h => carrackref01_block_b6 R n5 (ρ 0) (ρ 1) (ρ 2) (ρ 7) (ρ 8) h) [t0, t1, t2, v3, (Value.int IntKind.i64 0)] h4
def carrackref01_block.ann : Ann := { b := fun i => match i with | 5 => #[0, 0, 0, 0, 8, 28, 60, 124, 0, 0, 512, 1536, 3840, 7936, 16128, 32764, 0, 0, 131072, 393216, 983040, 2031616, 4128768, 8388604, 0, 0, 33554432, 100663296, 251658240, 520093696, 1073741820, 2147483647, 4294967295] | 9 => #[0, 0, 2, 7, 15, 31, 0, 0, 128, 448, 960, 2047, 4095, 0, 0, 16384, 57344, 122880, 253952, 524287, 1048575] | 10 => #[0, 0, 2, 7, 15, 31, 0, 0, 128, 448, 960, 2047, 4095, 0, 0, 16384, 57344, 122880, 253952, 524287, 1048575] | 11 => #[0, 0, 0, 0, 0, 16, 56, 120, 252, 0, 1020, 0, 0, 4096, 14336, 30720, 65532, 131071, 262143] | 16 => #[0, 1, 3, 0, 8, 24, 0, 64, 192, 0, 512, 1536, 0, 4096, 12288, 0, 32768, 98304, 7, 262207, 786943, 1839103, 3964927, 8388607] | 17 => #[0, 1, 3, 0, 8, 0, 56, 120, 0, 376, 1016, 2047, 0, 0, 12288, 0, 32768, 0, 229376, 520192, 1048575, 0, 0, 6291456, 14680064, 33554431, 0, 0, 201326592, 469762048, 1073741823, 2147483647] | 24 => #[0, 0, 0, 6, 14, 0, 0, 96, 224, 510, 1022, 2047, 4095] | _ => #[], ord := fun i => match i with | 5 => [0, 1, 2, 3, 4, 5, 6, 7, 8, 9, 10, 11, 12, 13, 14, 15, 16, 17, 18, 19, 20, 21, 22, 23, 24, 25, 26, 27, 28, 29, 30, 31, 32] | 9 => [0, 1, 2, 3, 4, 6, 7, 8, 9, 10, 13, 14, 15, 16, 17, 18, 5, 11, 12, 19, 20] | 10 => [0, 1, 2, 3, 4, 6, 7, 8, 9, 10, 13, 14, 15, 16, 17, 18, 5, 11, 12, 19, 20] | 11 => [0, 1, 2, 3, 4, 5, 6, 7, 8, 9, 10, 11, 12, 13, 14, 15, 16, 17, 18] | 16 => [0, 1, 2, 3, 4, 5, 6, 7, 8, 9, 10, 11, 12, 13, 14, 15, 16, 17, 18, 19, 20, 21, 22, 23] | 17 => [0, 1, 2, 3, 5, 8, 12, 13, 14, 15, 16, 17, 18, 19, 21, 22, 23, 24, 26, 27, 28, 29, 4, 6, 7, 9, 10, 11, 20, 25, 30, 31] | 24 => [0, 1, 2, 3, 4, 5, 6, 7, 8, 9, 10, 11, 12] | _ => [], keep := fun i => match i with | 3 => [0, 1, 2, 7, 8] | 7 => [1, 2, 7, 9] | 14 => [1, 2, 7, 12, 13] | 22 => [2, 12, 22, 23] | _ => [], n := 231 }
theorem carrackref01_block.eq (t0 : Value) (t1 : Value) (t2 : Value) (h0 : PH) (R : Value → PH → Prop) : codeF PG carrackref01_block.ann 200 (bodyOf Tryz.f85) (endH PG Tryz.f85 R) (fun t => (#[t0, t1, t2] : Array Value).getD t undef) h0 = carrackref01_block t0 t1 t2 h0 R := by kernel_rfl
theorem carrackref01_block.call {t0 : Value} {t1 : Value} {t2 : Value} {h0 : PH} {R : Value → PH → Prop} (H : carrackref01_block t0 t1 t2 h0 R) : CallsH PG id_carrackref01_block #[t0, t1, t2] h0 R :=
  callsF_by carrackref01_block.ann 200 mix Tryz.func85 (by kernel_rfl) (by kernel_rfl) (by kernel_rfl) (by kernel_rfl) (by simp [Tryz.ntmps85]) (carrackref01_block.eq t0 t1 t2 h0 R) H

def carrackref01_right (t0 : Value) (t1 : Value) (h0 : PH) (R : Value → PH → Prop) : Prop :=
 popO (SemP PG (binOp BinOp.shr T_uint32 t0 t1)) fun v1 =>
 popO (SemP PG (binOp BinOp.sub T_int (Value.int IntKind.i64 32) t1)) fun v2 =>
 popO (SemP PG (binOp BinOp.shl T_uint32 t0 v2)) fun v3 =>
 popO (SemP PG (binOp BinOp.or T_uint32 v1 v3)) fun v4 =>
 R v4 h0
def carrackref01_right.ann : Ann := { b := fun i => match i with | 1 => #[0, 0, 3, 0, 0, 16, 56, 127, 255] | _ => #[], ord := fun i => match i with | 1 => [0, 1, 2, 3, 4, 5, 6, 7, 8] | _ => [], keep := fun i => match i with  | _ => [], n := 13 }
theorem carrackref01_right.eq (t0 : Value) (t1 : Value) (h0 : PH) (R : Value → PH → Prop) : codeF PG carrackref01_right.ann 200 (bodyOf Tryz.f99) (endH PG Tryz.f99 R) (fun t => (#[t0, t1] : Array Value).getD t undef) h0 = carrackref01_right t0 t1 h0 R := by kernel_rfl
theorem carrackref01_right.call {t0 : Value} {t1 : Value} {h0 : PH} {R : Value → PH → Prop} (H : carrackref01_right t0 t1 h0 R) : CallsH PG id_carrackref01_right #[t0, t1] h0 R :=
  callsF_by carrackref01_right.ann 200 mix Tryz.func99 (by kernel_rfl) (by kernel_rfl) (by kernel_rfl) (by kernel_rfl) (by simp [Tryz.ntmps99]) (carrackref01_right.eq t0 t1 h0 R) H

def carrackref03_Bytes_b2 (R : Value → PH → Prop) (n1 : List Value → PH → Prop) (t0 : Value) (t1 : Value) (t5 : Value) (t6 : Value) (h0 : PH) : Prop :=
 popO (SemP PG (binOp BinOp.lss T_int t6 t1)) fun v3 =>
 condV v3
 (popO (SemP PG (binOp BinOp.rem T_uint64 t0 (Value.int IntKind.u64 256))) fun v4 =>
 popO (SemP PG (convert T_uint64 T_uint8 v4)) fun v5 =>
 popO (SemA PG (Instr.buildSlice T_sl_uint8 1 #[(0, v5)])) fun x7 => ∀ r6, h0 r6 = none → popO (SemP PG (x7.2 r6)) fun v8 => bindH (PH.set h0 r6 x7.1) fun h9 =>
 popO (SemE PG h9 (convert T_sl_uint8 T_string v8)) fun v10 =>
 popO (SemP PG (binOp BinOp.add T_string v10 t5)) fun v11 =>
 popO (SemP PG (binOp BinOp.quo T_uint64 t0 (Value.int IntKind.u64 256))) fun v12 =>
 popO (SemP PG (binOp BinOp.add T_int t6 (Value.int IntKind.i64 1))) fun v13 =>
 n1 [v12, t1, v11, v13] h9)
 (R t5 h0)
def carrackref03_Bytes (t0 : Value) (t1 : Value) (h0 : PH) (R : Value → PH → Prop) : Prop :=
 LoopL [0, 1, 5, 6] (fun n1 ρ h => carrackref03_Bytes_b2 R n1 (ρ 0) (ρ 1) (ρ 5) (ρ 6) h) [t0, t1, (Value.string { data := #[] }), (Value.int IntKind.i64 0)] h0
def carrackref03_Bytes.ann : Ann := { b := fun i => match i with  | _ => #[], ord := fun i => match i with  | _ => [], keep := fun i => match i with | 3 => [0, 1, 5, 6] | _ => [], n := 22 }
theorem carrackref03_Bytes.eq (t0 : Value) (t1 : Value) (h0 : PH) (R : Value → PH → Prop) : codeF PG carrackref03_Bytes.ann 200 (bodyOf Tryz.f52) (endH PG Tryz.f52 R) (fun t => (#[t0, t1] : Array Value).getD t undef) h0 = carrackref03_Bytes t0 t1 h0 R := by kernel_rfl
theorem carrackref03_Bytes.call {t0 : Value} {t1 : Value} {h0 : PH} {R : Value → PH → Prop} (H : carrackref03_Bytes t0 t1 h0 R) : CallsH PG id_carrackref03_Bytes #[t0, t1] h0 R :=
  callsF_by carrackref03_Bytes.ann 200 mix Tryz.func52 (by kernel_rfl) (by kernel_rfl) (by kernel_rfl) (by kernel_rfl) (by simp [Tryz.ntmps52]) (carrackref03_Bytes.eq t0 t1 h0 R) H

def carrackref08_Digest (t0 : Value) (t1 : Value) (h0 : PH) (R : Value → PH → Prop) : Prop :=
 popO (SemP PG (Builtin.len_ #[T_sl_api_Pair] T_int #[t1])) fun v1 =>
 popO (SemE PG h0 (binS BinOp.eql T_int (.tmp 7) (.const (Value.int IntKind.i64 1)) v1 (Value.int IntKind.i64 1))) fun v2 =>
 condV v2
 (popO (SemP PG (Instr.indexAt T_sl_api_Pair t1 (Value.int IntKind.i64 0))) fun v3 =>
 popO (SemE PG h0 (Instr.loadAt T_api_Pair v3)) fun v4 =>
 CallsH PG id_carrackref08_Leaf #[t0, v4] h0 fun v5 h6 =>
 R v5 h6)
 (popO (SemP PG (Builtin.len_ #[T_sl_api_Pair] T_int #[t1])) fun v7 =>
 CallsH PG id_carrackref08_Left #[v7] h0 fun v8 h9 =>
 popO (SemP PG (Instr.sliceAt T_sl_api_Pair t1 none (some v8) none)) fun v10 =>
 popO (SemP PG (Instr.sliceAt T_sl_api_Pair t1 (some v8) none none)) fun v11 =>
 CallsH PG id_carrackref08_Digest #[t0, v10] h9 fun v12 h13 =>
 (popO (SemP PG (binOp BinOp.add T_string (Value.string { data := #[1] }) v12)) fun v14 =>
 CallsH PG id_carrackref08_Digest #[t0, v11] h13 fun v15 h16 =>
 (popO (SemP PG (binOp BinOp.add T_string v14 v15)) fun v17 =>
 CallsH PG id_carrackref01_Book_Sum #[t0, v17] h16 fun v18 h19 =>
 (R v18 h19))))
def carrackref08_Digest.ann : Ann := { b := fun i => match i with | 4 => #[0, 0, 0, 0, 12, 30, 62, 0, 0, 0, 768, 1982, 4094, 8191, 16383] | _ => #[], ord := fun i => match i with | 4 => [0, 1, 2, 3, 4, 7, 8, 9, 10, 5, 6, 11, 12, 13, 14] | _ => [], keep := fun i => match i with  | _ => [], n := 31 }
theorem carrackref08_Digest.eq (t0 : Value) (t1 : Value) (h0 : PH) (R : Value → PH → Prop) : codeF PG carrackref08_Digest.ann 200 (bodyOf Tryz.f40) (endH PG Tryz.f40 R) (fun t => (#[t0, t1] : Array Value).getD t undef) h0 = carrackref08_Digest t0 t1 h0 R := by kernel_rfl
theorem carrackref08_Digest.call {t0 : Value} {t1 : Value} {h0 : PH} {R : Value → PH → Prop} (H : carrackref08_Digest t0 t1 h0 R) : CallsH PG id_carrackref08_Digest #[t0, t1] h0 R :=
  callsF_by carrackref08_Digest.ann 200 mix Tryz.func40 (by kernel_rfl) (by kernel_rfl) (by kernel_rfl) (by kernel_rfl) (by simp [Tryz.ntmps40]) (carrackref08_Digest.eq t0 t1 h0 R) H

def carrackref08_Leaf (t0 : Value) (t1 : Value) (h0 : PH) (R : Value → PH → Prop) : Prop :=
 ∀ r1, h0 r1 = none → bindH (PH.set h0 r1 (.cells (Value.cells t1) T_api_Pair)) fun h2 =>
 popO (SemP PG (Instr.fieldAt T_api_Pair (Value.pointer (some ⟨r1, 0, none⟩)) 0)) fun v3 =>
 popO (SemE PG h2 (Instr.loadAt T_string v3)) fun v4 =>
 popO (SemP PG (Builtin.len_ #[T_string] T_int #[v4])) fun v5 =>
 popO (SemP PG (convert T_int T_uint64 v5)) fun v6 =>
 popO (SemP PG (Instr.fieldAt T_api_Pair (Value.pointer (some ⟨r1, 0, none⟩)) 0)) fun v7 =>
 popO (SemE PG h2 (Instr.loadAt T_string v7)) fun v8 =>
 popO (SemP PG (Instr.fieldAt T_api_Pair (Value.pointer (some ⟨r1, 0, none⟩)) 1)) fun v9 =>
 popO (SemE PG h2 (Instr.loadAt T_string v9)) fun v10 =>
 popO (SemP PG (Builtin.len_ #[T_string] T_int #[v10])) fun v11 =>
 popO (SemP PG (convert T_int T_uint64 v11)) fun v12 =>
 popO (SemP PG (Instr.fieldAt T_api_Pair (Value.pointer (some ⟨r1, 0, none⟩)) 1)) fun v13 =>
 popO (SemE PG h2 (Instr.loadAt T_string v13)) fun v14 =>
 CallsH PG id_carrackref03_Bytes #[v6, (Value.int IntKind.i64 1)] h2 fun v15 h16 =>
 SemE PG h16 (Instr.loadAt T_string v13) = some v14 ∧ SemE PG h16 (Instr.loadAt T_string v9) = some v10 ∧ SemE PG h16 (Instr.loadAt T_string v7) = some v8 ∧ (popO (SemP PG (binOp BinOp.add T_string (Value.string { data := #[0] }) v15)) fun v17 =>
 popO (SemP PG (binOp BinOp.add T_string v17 v8)) fun v18 =>
 CallsH PG id_carrackref03_Bytes #[v12, (Value.int IntKind.i64 1)] h16 fun v19 h20 =>
 SemE PG h20 (Instr.loadAt T_string v13) = some v14 ∧ SemE PG h20 (Instr.loadAt T_string v7) = some v8 ∧ (popO (SemP PG (binOp BinOp.add T_string v18 v19)) fun v21 =>
 popO (SemP PG (binOp BinOp.add T_string v21 v14)) fun v22 =>
 CallsH PG id_carrackref01_Book_Sum #[t0, v22] h20 fun v23 h24 =>
 (R v23 h24)))
def carrackref08_Leaf.ann : Ann := { b := fun i => match i with | 1 => #[0, 0, 2, 6, 14, 30, 62, 0, 128, 510, 0, 1024, 3072, 7168, 15422, 32766, 0, 65536, 262142, 524287, 1048575] | _ => #[], ord := fun i => match i with | 1 => [0, 1, 2, 3, 4, 7, 8, 10, 11, 12, 13, 16, 17, 5, 6, 9, 14, 15, 18, 19, 20] | _ => [], keep := fun i => match i with  | _ => [], n := 25 }
theorem carrackref08_Leaf.eq (t0 : Value) (t1 : Value) (h0 : PH) (R : Value → PH → Prop) : codeF PG carrackref08_Leaf.ann 200 (bodyOf Tryz.f53) (endH PG Tryz.f53 R) (fun t => (#[t0, t1] : Array Value).getD t undef) h0 = carrackref08_Leaf t0 t1 h0 R := by kernel_rfl
theorem carrackref08_Leaf.call {t0 : Value} {t1 : Value} {h0 : PH} {R : Value → PH → Prop} (H : carrackref08_Leaf t0 t1 h0 R) : CallsH PG id_carrackref08_Leaf #[t0, t1] h0 R :=
  callsF_by carrackref08_Leaf.ann 200 mix Tryz.func53 (by kernel_rfl) (by kernel_rfl) (by kernel_rfl) (by kernel_rfl) (by simp [Tryz.ntmps53]) (carrackref08_Leaf.eq t0 t1 h0 R) H

def carrackref08_Left_b2 (R : Value → PH → Prop) (n1 : List Value → PH → Prop) (t0 : Value) (t3 : Value) (h0 : PH) : Prop :=
 popO (SemP PG (binOp BinOp.mul T_int t3 (Value.int IntKind.i64 2))) fun v3 =>
 popO (SemP PG (binOp BinOp.lss T_int v3 t0)) fun v4 =>
 condV v4
 (popO (SemP PG (binOp BinOp.mul T_int t3 (Value.int IntKind.i64 2))) fun v5 =>
 n1 [t0, v5] h0)
 (R t3 h0)
def carrackref08_Left (t0 : Value) (h0 : PH) (R : Value → PH → Prop) : Prop :=
 LoopL [0, 3] (fun n1 ρ h => carrackref08_Left_b2 R n1 (ρ 0) (ρ 3) h) [t0, (Value.int IntKind.i64 1)] h0
def carrackref08_Left.ann : Ann := { b := fun i => match i with  | _ => #[], ord := fun i => match i with  | _ => [], keep := fun i => match i with | 2 => [0, 3] | _ => [], n := 11 }
theorem carrackref08_Left.eq (t0 : Value) (h0 : PH) (R : Value → PH → Prop) : codeF PG carrackref08_Left.ann 200 (bodyOf Tryz.f54) (endH PG Tryz.f54 R) (fun t => (#[t0] : Array Value).getD t undef) h0 = carrackref08_Left t0 h0 R := by kernel_rfl
theorem carrackref08_Left.call {t0 : Value} {h0 : PH} {R : Value → PH → Prop} (H : carrackref08_Left t0 h0 R) : CallsH PG id_carrackref08_Left #[t0] h0 R :=
  callsF_by carrackref08_Left.ann 200 mix Tryz.func54 (by kernel_rfl) (by kernel_rfl) (by kernel_rfl) (by kernel_rfl) (by simp [Tryz.ntmps54]) (carrackref08_Left.eq t0 h0 R) H

def carrackref01_New (h0 : PH) (R : Value → PH → Prop) : Prop :=
 CallsH PG id_carrackref01_Constants #[] h0 fun v1 h2 =>
 popO (SemP PG (Instr.extract v1 0)) fun v3 =>
 popO (SemP PG (Instr.extract v1 1)) fun v4 =>
 popO (SemA PG (Instr.makeMap T_map_string_string none)) fun x6 => ∀ r5, h2 r5 = none → popO (SemP PG (x6.2 r5)) fun v7 => bindH (PH.set h2 r5 x6.1) fun h8 =>
 popO (SemP PG (Instr.build T_carrackref01_Book #[(0, v3), (1, v4), (2, v7)])) fun v9 =>
 ∀ r10, h8 r10 = none → bindH (PH.set h8 r10 (.cells (Value.cells v9) T_carrackref01_Book)) fun h11 =>
 R (Value.pointer (some ⟨r10, 0, none⟩)) h11
def carrackref01_New.ann : Ann := { b := fun i => match i with  | _ => #[], ord := fun i => match i with  | _ => [], keep := fun i => match i with  | _ => [], n := 12 }
theorem carrackref01_New.eq (h0 : PH) (R : Value → PH → Prop) : codeF PG carrackref01_New.ann 200 (bodyOf Tryz.f20) (endH PG Tryz.f20 R) (fun t => (#[] : Array Value).getD t undef) h0 = carrackref01_New  h0 R := by kernel_rfl
theorem carrackref01_New.call {h0 : PH} {R : Value → PH → Prop} (H : carrackref01_New  h0 R) : CallsH PG id_carrackref01_New #[] h0 R :=
  callsF_by carrackref01_New.ann 200 mix Tryz.func20 (by kernel_rfl) (by kernel_rfl) (by kernel_rfl) (by kernel_rfl) (by simp [Tryz.ntmps20]) (carrackref01_New.eq  h0 R) H

def carrackref01_Constants_k28 (R : Value → PH → Prop) (n3 : List Value → PH → Prop) (t2 : Value) (t3 : Value) (t4 : Value) (t5 : Value) (h0 : PH) : Prop :=
 popO (SemP PG (binOp BinOp.add T_int t5 (Value.int IntKind.i64 1))) fun v29 =>
 n3 [t2, t3, t4, v29] h0
def carrackref01_Constants_k27 (R : Value → PH → Prop) (n3 : List Value → PH → Prop) (t2 : Value) (t3 : Value) (t4 : Value) (t5 : Value) (h0 : PH) : Prop :=
 carrackref01_Constants_k28 R n3 t2 t3 t4 t5 h0
def carrackref01_Constants_b4 (R : Value → PH → Prop) (n3 : List Value → PH → Prop) (t2 : Value) (t3 : Value) (t4 : Value) (t5 : Value) (h0 : PH) : Prop :=
 popO (SemP PG (binOp BinOp.lss T_int t5 (Value.int IntKind.i64 64))) fun v5 =>
 condV v5
 (popO (SemP PG (Instr.indexAt T_sl_uint64 t4 t5)) fun v6 =>
 popO (SemE PG h0 (Instr.loadAt T_uint64 v6)) fun v7 =>
 CallsH PG id_carrackref01_root #[v7, (Value.bool true)] h0 fun v8 h9 =>
 popO (SemA PG (Instr.buildSlice T_sl_uint32 1 #[(0, v8)])) fun x11 => ∀ r10, h9 r10 = none → popO (SemP PG (x11.2 r10)) fun v12 => bindH (PH.set h9 r10 x11.1) fun h13 =>
 SemH PG (Builtin.append_ #[T_sl_uint32, T_sl_uint32] T_sl_uint32 #[t2, v12]) h13 fun v14 h15 =>
 popO (SemP PG (binOp BinOp.lss T_int t5 (Value.int IntKind.i64 8))) fun v16 =>
 condV v16
 (popO (SemP PG (Instr.indexAt T_sl_uint64 t4 t5)) fun v17 =>
 popO (SemE PG h15 (Instr.loadAt T_uint64 v17)) fun v18 =>
 CallsH PG id_carrackref01_root #[v18, (Value.bool false)] h15 fun v19 h20 =>
 popO (SemA PG (Instr.buildSlice T_sl_uint32 1 #[(0, v19)])) fun x22 => ∀ r21, h20 r21 = none → popO (SemP PG (x22.2 r21)) fun v23 => bindH (PH.set h20 r21 x22.1) fun h24 =>
 SemH PG (Builtin.append_ #[T_sl_uint32, T_sl_uint32] T_sl_uint32 #[t3, v23]) h24 fun v25 h26 =>
 carrackref01_Constants_k27 R n3 v14 v25 t4 t5 h26)
 (carrackref01_Constants_k27 R n3 v14 t3 t4 t5 h15))
 (R (Value.tuple #[t2, t3]) h0)
def carrackref01_Constants (h0 : PH) (R : Value → PH → Prop) : Prop :=
 CallsH PG id_carrackref01_primes #[(Value.int IntKind.i64 64)] h0 fun v1 h2 =>
 LoopL [2, 3, 4, 5] (fun n3 ρ h => carrackref01_Constants_b4 R n3 (ρ 2) (ρ 3) (ρ 4) (ρ 5) h) [(Value.slice none 0 0), (Value.slice none 0 0), v1, (Value.int IntKind.i64 0)] h2
def carrackref01_Constants.ann : Ann := { b := fun i => match i with  | _ => #[], ord := fun i => match i with  | _ => [], keep := fun i => match i with | 4 => [2, 3, 4, 5] | _ => [], n := 31 }
theorem carrackref01_Constants.eq (h0 : PH) (R : Value → PH → Prop) : codeF PG carrackref01_Constants.ann 200 (bodyOf Tryz.f32) (endH PG Tryz.f32 R) (fun t => (#[] : Array Value).getD t undef) h0 = carrackref01_Constants  h0 R := by kernel_rfl
theorem carrackref01_Constants.call {h0 : PH} {R : Value → PH → Prop} (H : carrackref01_Constants  h0 R) : CallsH PG id_carrackref01_Constants #[] h0 R :=
  callsF_by carrackref01_Constants.ann 200 mix Tryz.func32 (by kernel_rfl) (by kernel_rfl) (by kernel_rfl) (by kernel_rfl) (by simp [Tryz.ntmps32]) (carrackref01_Constants.eq  h0 R) H

def carrackref01_primes_k14 (R : Value → PH → Prop) (n1 : List Value → PH → Prop) (n5 : List Value → PH → Prop) (t0 : Value) (t3 : Value) (t4 : Value) (t5 : Value) (t6 : Value) (h0 : PH) : Prop :=
 popO (SemP PG (binOp BinOp.add T_int t6 (Value.int IntKind.i64 1))) fun v15 =>
 n5 [t0, t3, t4, t5, v15] h0
def carrackref01_primes_k13 (R : Value → PH → Prop) (n1 : List Value → PH → Prop) (n5 : List Value → PH → Prop) (t0 : Value) (t3 : Value) (t4 : Value) (t5 : Value) (t6 : Value) (h0 : PH) : Prop :=
 carrackref01_primes_k14 R n1 n5 t0 t3 t4 t5 t6 h0
def carrackref01_primes_k23 (R : Value → PH → Prop) (n1 : List Value → PH → Prop) (t0 : Value) (t3 : Value) (t4 : Value) (h0 : PH) : Prop :=
 popO (SemP PG (binOp BinOp.add T_uint64 t4 (Value.int IntKind.u64 1))) fun v24 =>
 n1 [t0, t3, v24] h0
def carrackref01_primes_k22 (R : Value → PH → Prop) (n1 : List Value → PH → Prop) (t0 : Value) (t3 : Value) (t4 : Value) (h0 : PH) : Prop :=
 carrackref01_primes_k23 R n1 t0 t3 t4 h0
def carrackref01_primes_b6 (R : Value → PH → Prop) (n1 : List Value → PH → Prop) (n5 : List Value → PH → Prop) (t0 : Value) (t3 : Value) (t4 : Value) (t5 : Value) (t6 : Value) (h0 : PH) : Prop :=
 popO (SemP PG (Builtin.len_ #[T_sl_uint64] T_int #[t3])) fun v7 =>
 popO (SemP PG (binOp BinOp.lss T_int t6 v7)) fun v8 =>
 condV v8
 (popO (SemP PG (Instr.indexAt T_sl_uint64 t3 t6)) fun v9 =>
 popO (SemE PG h0 (Instr.loadAt T_uint64 v9)) fun v10 =>
 popO (SemP PG (binOp BinOp.rem T_uint64 t4 v10)) fun v11 =>
 popO (SemE PG h0 (binS BinOp.eql T_uint64 (.tmp 24) (.const (Value.int IntKind.u64 0)) v11 (Value.int IntKind.u64 0))) fun v12 =>
 condV v12
 (carrackref01_primes_k13 R n1 n5 t0 t3 t4 (Value.bool false) t6 h0)
 (carrackref01_primes_k13 R n1 n5 t0 t3 t4 t5 t6 h0))
 (condV t5
 (popO (SemA PG (Instr.buildSlice T_sl_uint64 1 #[(0, t4)])) fun x17 => ∀ r16, h0 r16 = none → popO (SemP PG (x17.2 r16)) fun v18 => bindH (PH.set h0 r16 x17.1) fun h19 =>
 SemH PG (Builtin.append_ #[T_sl_uint64, T_sl_uint64] T_sl_uint64 #[t3, v18]) h19 fun v20 h21 =>
 carrackref01_primes_k22 R n1 t0 v20 t4 h21)
 (carrackref01_primes_k22 R n1 t0 t3 t4 h0))
def carrackref01_primes_b2 (R : Value → PH → Prop) (n1 : List Value → PH → Prop) (t0 : Value) (t3 : Value) (t4 : Value) (h0 : PH) : Prop :=
 popO (SemP PG (Builtin.len_ #[T_sl_uint64] T_int #[t3])) fun v3 =>
 popO (SemP PG (binOp BinOp.lss T_int v3 t0)) fun v4 =>
 condV v4
 (LoopL [0, 3, 4, 5, 6] (fun n5 ρ h => carrackref01_primes_b6 R n1 n5 (ρ 0) (ρ 3) (ρ 4) (ρ 5) (ρ 6) h) [t0, t3, t4, (Value.bool true), (Value.int IntKind.i64 0)] h0)
 (R t3 h0)
def carrackref01_primes (t0 : Value) (h0 : PH) (R : Value → PH → Prop) : Prop :=
 LoopL [0, 3, 4] (fun n1 ρ h => carrackref01_primes_b2 R n1 (ρ 0) (ρ 3) (ρ 4) h) [t0, (Value.slice none 0 0), (Value.int IntKind.u64 2)] h0
def carrackref01_primes.ann : Ann := { b := fun i => match i with  | _ => #[], ord := fun i => match i with  | _ => [], keep := fun i => match i with | 3 => [0, 3, 4] | 7 => [0, 3, 4, 5, 6] | _ => [], n := 32 }
theorem carrackref01_primes.eq (t0 : Value) (h0 : PH) (R : Value → PH → Prop) : codeF PG carrackref01_primes.ann 200 (bodyOf Tryz.f41) (endH PG Tryz.f41 R) (fun t => (#[t0] : Array Value).getD t undef) h0 = carrackref01_primes t0 h0 R := by kernel_rfl
theorem carrackref01_primes.call {t0 : Value} {h0 : PH} {R : Value → PH → Prop} (H : carrackref01_primes t0 h0 R) : CallsH PG id_carrackref01_primes #[t0] h0 R :=
  callsF_by carrackref01_primes.ann 200 mix Tryz.func41 (by kernel_rfl) (by kernel_rfl) (by kernel_rfl) (by kernel_rfl) (by simp [Tryz.ntmps41]) (carrackref01_primes.eq t0 h0 R) H

def carrackref01_root_k9 (R : Value → PH → Prop) (n1 : List Value → PH → Prop) (t0 : Value) (t1 : Value) (t5 : Value) (t6 : Value) (h0 : PH) : Prop :=
 n1 [t0, t1, t5, t6] h0
def carrackref01_root_b2 (R : Value → PH → Prop) (n1 : List Value → PH → Prop) (t0 : Value) (t1 : Value) (t5 : Value) (t6 : Value) (h0 : PH) : Prop :=
 popO (SemP PG (binOp BinOp.sub T_uint64 t6 t5)) fun v3 =>
 popO (SemP PG (binOp BinOp.gtr T_uint64 v3 (Value.int IntKind.u64 1))) fun v4 =>
 condV v4
 (popO (SemP PG (binOp BinOp.add T_uint64 t5 t6)) fun v5 =>
 popO (SemP PG (binOp BinOp.quo T_uint64 v5 (Value.int IntKind.u64 2))) fun v6 =>
 CallsH PG id_carrackref01_least #[v6, t0, t1] h0 fun v7 h8 =>
 condV v7
 (carrackref01_root_k9 R n1 t0 t1 v6 t6 h8)
 (carrackref01_root_k9 R n1 t0 t1 t5 v6 h8))
 (popO (SemP PG (convert T_uint64 T_uint32 t5)) fun v10 =>
 R v10 h0)
def carrackref01_root (t0 : Value) (t1 : Value) (h0 : PH) (R : Value → PH → Prop) : Prop :=
 LoopL [0, 1, 5, 6] (fun n1 ρ h => carrackref01_root_b2 R n1 (ρ 0) (ρ 1) (ρ 5) (ρ 6) h) [t0, t1, (Value.int IntKind.u64 0), (Value.int IntKind.u64 68719476736)] h0
def carrackref01_root.ann : Ann := { b := fun i => match i with  | _ => #[], ord := fun i => match i with  | _ => [], keep := fun i => match i with | 2 => [0, 1, 5, 6] | _ => [], n := 24 }
theorem carrackref01_root.eq (t0 : Value) (t1 : Value) (h0 : PH) (R : Value → PH → Prop) : codeF PG carrackref01_root.ann 200 (bodyOf Tryz.f42) (endH PG Tryz.f42 R) (fun t => (#[t0, t1] : Array Value).getD t undef) h0 = carrackref01_root t0 t1 h0 R := by kernel_rfl
theorem carrackref01_root.call {t0 : Value} {t1 : Value} {h0 : PH} {R : Value → PH → Prop} (H : carrackref01_root t0 t1 h0 R) : CallsH PG id_carrackref01_root #[t0, t1] h0 R :=
  callsF_by carrackref01_root.ann 200 mix Tryz.func42 (by kernel_rfl) (by kernel_rfl) (by kernel_rfl) (by kernel_rfl) (by simp [Tryz.ntmps42]) (carrackref01_root.eq t0 t1 h0 R) H

def carrackref01_least_b7 (R : Value → PH → Prop) (n6 : List Value → PH → Prop) (t0 : Value) (t1 : Value) (t7 : Value) (t8 : Value) (t9 : Value) (h0 : PH) : Prop :=
 popO (SemP PG (binOp BinOp.lss T_int t9 t8)) fun v8 =>
 condV v8
 (CallsH PG id_carrackref01_multiply #[t7, t0] h0 fun v9 h10 =>
 popO (SemP PG (binOp BinOp.add T_int t9 (Value.int IntKind.i64 1))) fun v11 =>
 n6 [t0, t1, v9, t8, v11] h10)
 (popO (SemP PG (binOp BinOp.add T_int t8 (Value.int IntKind.i64 2))) fun v12 =>
 popO (SemA PG (Instr.makeSlice T_sl_uint64 v12 v12)) fun x14 => ∀ r13, h0 r13 = none → popO (SemP PG (x14.2 r13)) fun v15 => bindH (PH.set h0 r13 x14.1) fun h16 =>
 popO (SemP PG (binOp BinOp.add T_int t8 (Value.int IntKind.i64 1))) fun v17 =>
 popO (SemP PG (Instr.indexAt T_sl_uint64 v15 v17)) fun v18 =>
 SemH PG (storeS T_uint64 v18 t1) h16 fun v19 h20 =>
 CallsH PG id_carrackref01_above #[t7, v15] h20 fun v21 h22 =>
 popO (SemP PG (Op.unary UnOp.not v21)) fun v23 =>
 R v23 h22)
def carrackref01_least_k5 (R : Value → PH → Prop) (t0 : Value) (t1 : Value) (t7 : Value) (t8 : Value) (h0 : PH) : Prop :=
 LoopL [0, 1, 7, 8, 9] (fun n6 ρ h => carrackref01_least_b7 R n6 (ρ 0) (ρ 1) (ρ 7) (ρ 8) (ρ 9) h) [t0, t1, t7, t8, (Value.int IntKind.i64 0)] h0
def carrackref01_least (t0 : Value) (t1 : Value) (t2 : Value) (h0 : PH) (R : Value → PH → Prop) : Prop :=
 popO (SemA PG (Instr.buildSlice T_sl_uint64 1 #[(0, t0)])) fun x2 => ∀ r1, h0 r1 = none → popO (SemP PG (x2.2 r1)) fun v3 => bindH (PH.set h0 r1 x2.1) fun h4 =>
 condV t2
 (carrackref01_least_k5 R t0 t1 v3 (Value.int IntKind.i64 2) h4)
 (carrackref01_least_k5 R t0 t1 v3 (Value.int IntKind.i64 1) h4)
def carrackref01_least.ann : Ann := { b := fun i => match i with  | _ => #[], ord := fun i => match i with  | _ => [], keep := fun i => match i with | 6 => [0, 1, 7, 8, 9] | _ => [], n := 34 }
theorem carrackref01_least.eq (t0 : Value) (t1 : Value) (t2 : Value) (h0 : PH) (R : Value → PH → Prop) : codeF PG carrackref01_least.ann 200 (bodyOf Tryz.f55) (endH PG Tryz.f55 R) (fun t => (#[t0, t1, t2] : Array Value).getD t undef) h0 = carrackref01_least t0 t1 t2 h0 R := by kernel_rfl
theorem carrackref01_least.call {t0 : Value} {t1 : Value} {t2 : Value} {h0 : PH} {R : Value → PH → Prop} (H : carrackref01_least t0 t1 t2 h0 R) : CallsH PG id_carrackref01_least #[t0, t1, t2] h0 R :=
  callsF_by carrackref01_least.ann 200 mix Tryz.func55 (by kernel_rfl) (by kernel_rfl) (by kernel_rfl) (by kernel_rfl) (by simp [Tryz.ntmps55]) (carrackref01_least.eq t0 t1 t2 h0 R) H

def carrackref01_multiply_b12 (R : Value → PH → Prop) (n11 : List Value → PH → Prop) (t0 : Value) (t5 : Value) (t6 : Value) (t7 : Value) (t8 : Value) (h0 : PH) : Prop :=
 popO (SemP PG (Builtin.len_ #[T_sl_uint64] T_int #[t0])) fun v13 =>
 popO (SemP PG (binOp BinOp.lss T_int t8 v13)) fun v14 =>
 condV v14
 (popO (SemP PG (Instr.indexAt T_sl_uint64 t0 t8)) fun v15 =>
 popO (SemE PG h0 (Instr.loadAt T_uint64 v15)) fun v16 =>
 popO (SemP PG (binOp BinOp.mul T_uint64 v16 t5)) fun v17 =>
 CallsH PG id_carrackref01_add #[t7, t8, v17] h0 fun v18 h19 =>
 popO (SemP PG (binOp BinOp.add T_int t8 (Value.int IntKind.i64 1))) fun v20 =>
 popO (SemP PG (Instr.indexAt T_sl_uint64 t0 t8)) fun v21 =>
 popO (SemE PG h19 (Instr.loadAt T_uint64 v21)) fun v22 =>
 popO (SemP PG (binOp BinOp.mul T_uint64 v22 t6)) fun v23 =>
 CallsH PG id_carrackref01_add #[t7, v20, v23] h19 fun v24 h25 =>
 popO (SemP PG (binOp BinOp.add T_int t8 (Value.int IntKind.i64 1))) fun v26 =>
 n11 [t0, t5, t6, t7, v26] h25)
 (R t7 h0)
def carrackref01_multiply (t0 : Value) (t1 : Value) (h0 : PH) (R : Value → PH → Prop) : Prop :=
 CallsH PG id_carrackref01_spread #[t0] h0 fun v1 h2 =>
 popO (SemP PG (binOp BinOp.rem T_uint64 t1 (Value.int IntKind.u64 4294967296))) fun v3 =>
 popO (SemP PG (binOp BinOp.quo T_uint64 t1 (Value.int IntKind.u64 4294967296))) fun v4 =>
 popO (SemP PG (Builtin.len_ #[T_sl_uint64] T_int #[v1])) fun v5 =>
 popO (SemP PG (binOp BinOp.add T_int v5 (Value.int IntKind.i64 3))) fun v6 =>
 popO (SemA PG (Instr.makeSlice T_sl_uint64 v6 v6)) fun x8 => ∀ r7, h2 r7 = none → popO (SemP PG (x8.2 r7)) fun v9 => bindH (PH.set h2 r7 x8.1) fun h10 =>
 LoopL [0, 5, 6, 7, 8] (fun n11 ρ h => carrackref01_multiply_b12 R n11 (ρ 0) (ρ 5) (ρ 6) (ρ 7) (ρ 8) h) [v1, v3, v4, v9, (Value.int IntKind.i64 0)] h10
def carrackref01_multiply.ann : Ann := { b := fun i => match i with  | _ => #[], ord := fun i => match i with  | _ => [], keep := fun i => match i with | 5 => [0, 5, 6, 7, 8] | _ => [], n := 45 }
theorem carrackref01_multiply.eq (t0 : Value) (t1 : Value) (h0 : PH) (R : Value → PH → Prop) : codeF PG carrackref01_multiply.ann 200 (bodyOf Tryz.f70) (endH PG Tryz.f70 R) (fun t => (#[t0, t1] : Array Value).getD t undef) h0 = carrackref01_multiply t0 t1 h0 R := by kernel_rfl
theorem carrackref01_multiply.call {t0 : Value} {t1 : Value} {h0 : PH} {R : Value → PH → Prop} (H : carrackref01_multiply t0 t1 h0 R) : CallsH PG id_carrackref01_multiply #[t0, t1] h0 R :=
  callsF_by carrackref01_multiply.ann 200 mix Tryz.func70 (by kernel_rfl) (by kernel_rfl) (by kernel_rfl) (by kernel_rfl) (by simp [Tryz.ntmps70]) (carrackref01_multiply.eq t0 t1 h0 R) H

def carrackref01_spread_b8 (R : Value → PH → Prop) (n7 : List Value → PH → Prop) (t0 : Value) (t3 : Value) (t4 : Value) (h0 : PH) : Prop :=
 popO (SemP PG (Builtin.len_ #[T_sl_uint64] T_int #[t0])) fun v9 =>
 popO (SemP PG (binOp BinOp.lss T_int t4 v9)) fun v10 =>
 condV v10
 (popO (SemP PG (Instr.indexAt T_sl_uint64 t0 t4)) fun v11 =>
 popO (SemE PG h0 (Instr.loadAt T_uint64 v11)) fun v12 =>
 CallsH PG id_carrackref01_add #[t3, t4, v12] h0 fun v13 h14 =>
 popO (SemP PG (binOp BinOp.add T_int t4 (Value.int IntKind.i64 1))) fun v15 =>
 n7 [t0, t3, v15] h14)
 (R t3 h0)
def carrackref01_spread (t0 : Value) (h0 : PH) (R : Value → PH → Prop) : Prop :=
 popO (SemP PG (Builtin.len_ #[T_sl_uint64] T_int #[t0])) fun v1 =>
 popO (SemP PG (binOp BinOp.add T_int v1 (Value.int IntKind.i64 1))) fun v2 =>
 popO (SemA PG (Instr.makeSlice T_sl_uint64 v2 v2)) fun x4 => ∀ r3, h0 r3 = none → popO (SemP PG (x4.2 r3)) fun v5 => bindH (PH.set h0 r3 x4.1) fun h6 =>
 LoopL [0, 3, 4] (fun n7 ρ h => carrackref01_spread_b8 R n7 (ρ 0) (ρ 3) (ρ 4) h) [t0, v5, (Value.int IntKind.i64 0)] h6
def carrackref01_spread.ann : Ann := { b := fun i => match i with  | _ => #[], ord := fun i => match i with  | _ => [], keep := fun i => match i with | 3 => [0, 3, 4] | _ => [], n := 23 }
theorem carrackref01_spread.eq (t0 : Value) (h0 : PH) (R : Value → PH → Prop) : codeF PG carrackref01_spread.ann 200 (bodyOf Tryz.f86) (endH PG Tryz.f86 R) (fun t => (#[t0] : Array Value).getD t undef) h0 = carrackref01_spread t0 h0 R := by kernel_rfl
theorem carrackref01_spread.call {t0 : Value} {h0 : PH} {R : Value → PH → Prop} (H : carrackref01_spread t0 h0 R) : CallsH PG id_carrackref01_spread #[t0] h0 R :=
  callsF_by carrackref01_spread.ann 200 mix Tryz.func86 (by kernel_rfl) (by kernel_rfl) (by kernel_rfl) (by kernel_rfl) (by simp [Tryz.ntmps86]) (carrackref01_spread.eq t0 h0 R) H

def carrackref01_add_b2 (R : Value → PH → Prop) (n1 : List Value → PH → Prop) (t0 : Value) (t1 : Value) (t2 : Value) (h0 : PH) : Prop :=
 popO (SemP PG (binOp BinOp.gtr T_uint64 t2 (Value.int IntKind.u64 0))) fun v3 =>
 gopV (yV v3) true (fun k6 => k6 t1 h0) h0 fun v4 h5 =>
 gopV (yV v3) true (fun k9 => k9 t0 h5) h5 fun v7 h8 =>
 gopV (yV v3) true (fun k12 => popO (SemP PG (Builtin.len_ #[T_sl_uint64] T_int #[v7])) fun v13 => k12 v13 h8) h8 fun v10 h11 =>
 gopV (yV v3) true (fun k16 => popO (SemP PG (binOp BinOp.lss T_int v4 v10)) fun v17 => k16 v17 h11) h11 fun v14 h15 =>
 popO (pickV v3 v14 (Value.bool false)) fun v18 =>
 condV v18
 (popO (SemP PG (binOp BinOp.rem T_uint64 t2 (Value.int IntKind.u64 4294967296))) fun v19 =>
 popO (SemP PG (Instr.indexAt T_sl_uint64 t0 t1)) fun v20 =>
 popO (SemE PG h15 (Instr.loadAt T_uint64 v20)) fun v21 =>
 popO (SemP PG (binOp BinOp.add T_uint64 v19 v21)) fun v22 =>
 popO (SemP PG (binOp BinOp.quo T_uint64 t2 (Value.int IntKind.u64 4294967296))) fun v23 =>
 popO (SemP PG (binOp BinOp.mul T_uint64 v23 (Value.int IntKind.u64 4294967296))) fun v24 =>
 popO (SemP PG (binOp BinOp.add T_uint64 v22 v24)) fun v25 =>
 popO (SemP PG (binOp BinOp.rem T_uint64 v25 (Value.int IntKind.u64 4294967296))) fun v26 =>
 popO (SemP PG (Instr.indexAt T_sl_uint64 t0 t1)) fun v27 =>
 SemH PG (storeS T_uint64 v27 v26) h15 fun v28 h29 =>
 popO (SemP PG (binOp BinOp.quo T_uint64 v25 (Value.int IntKind.u64 4294967296))) fun v30 =>
 popO (SemP PG (binOp BinOp.add T_int t1 (Value.int IntKind.i64 1))) fun v31 =>
 n1 [t0, v31, v30] h29)
 (R (Value.tuple #[]) h15)
def carrackref01_add (t0 : Value) (t1 : Value) (t2 : Value) (h0 : PH) (R : Value → PH → Prop) : Prop :=
 LoopL [0, 1, 2] (fun n1 ρ h => carrackref01_add_b2 R n1 (ρ 0) (ρ 1) (ρ 2) h) [t0, t1, t2] h0
def carrackref01_add.ann : Ann := { b := fun i => match i with  | _ => #[], ord := fun i => match i with  | _ => [], keep := fun i => match i with | 0 => [0, 1, 2] | _ => [], n := 34 }
theorem carrackref01_add.eq (t0 : Value) (t1 : Value) (t2 : Value) (h0 : PH) (R : Value → PH → Prop) : codeF PG carrackref01_add.ann 200 (bodyOf Tryz.f87) (endH PG Tryz.f87 R) (fun t => (#[t0, t1, t2] : Array Value).getD t undef) h0 = carrackref01_add t0 t1 t2 h0 R := by kernel_rfl
theorem carrackref01_add.call {t0 : Value} {t1 : Value} {t2 : Value} {h0 : PH} {R : Value → PH → Prop} (H : carrackref01_add t0 t1 t2 h0 R) : CallsH PG id_carrackref01_add #[t0, t1, t2] h0 R :=
  callsF_by carrackref01_add.ann 200 mix Tryz.func87 (by kernel_rfl) (by kernel_rfl) (by kernel_rfl) (by kernel_rfl) (by simp [Tryz.ntmps87]) (carrackref01_add.eq t0 t1 t2 h0 R) H

def carrackref01_above_b5 (R : Value → PH → Prop) (n4 : List Value → PH → Prop) (t0 : Value) (t1 : Value) (t5 : Value) (h0 : PH) : Prop :=
 popO (SemP PG (binOp BinOp.geq T_int t5 (Value.int IntKind.i64 0))) fun v6 =>
 condV v6
 (CallsH PG id_carrackref01_digit #[t0, t5] h0 fun v7 h8 =>
 CallsH PG id_carrackref01_digit #[t1, t5] h8 fun v9 h10 =>
 popO (SemE PG h10 (binS BinOp.neq T_uint64 (.tmp 23) (.tmp 24) v7 v9)) fun v11 =>
 condV v11
 (popO (SemP PG (binOp BinOp.gtr T_uint64 v7 v9)) fun v12 =>
 R v12 h10)
 (popO (SemP PG (binOp BinOp.sub T_int t5 (Value.int IntKind.i64 1))) fun v13 =>
 n4 [t0, t1, v13] h10))
 (R (Value.bool false) h0)
def carrackref01_above (t0 : Value) (t1 : Value) (h0 : PH) (R : Value → PH → Prop) : Prop :=
 popO (SemP PG (Builtin.len_ #[T_sl_uint64] T_int #[t0])) fun v1 =>
 popO (SemP PG (Builtin.len_ #[T_sl_uint64] T_int #[t1])) fun v2 =>
 popO (SemP PG (binOp BinOp.add T_int v1 v2)) fun v3 =>
 LoopL [0, 1, 5] (fun n4 ρ h => carrackref01_above_b5 R n4 (ρ 0) (ρ 1) (ρ 5) h) [t0, t1, v3] h0
def carrackref01_above.ann : Ann := { b := fun i => match i with  | _ => #[], ord := fun i => match i with  | _ => [], keep := fun i => match i with | 2 => [0, 1, 5] | _ => [], n := 29 }
theorem carrackref01_above.eq (t0 : Value) (t1 : Value) (h0 : PH) (R : Value → PH → Prop) : codeF PG carrackref01_above.ann 200 (bodyOf Tryz.f71) (endH PG Tryz.f71 R) (fun t => (#[t0, t1] : Array Value).getD t undef) h0 = carrackref01_above t0 t1 h0 R := by kernel_rfl
theorem carrackref01_above.call {t0 : Value} {t1 : Value} {h0 : PH} {R : Value → PH → Prop} (H : carrackref01_above t0 t1 h0 R) : CallsH PG id_carrackref01_above #[t0, t1] h0 R :=
  callsF_by carrackref01_above.ann 200 mix Tryz.func71 (by kernel_rfl) (by kernel_rfl) (by kernel_rfl) (by kernel_rfl) (by simp [Tryz.ntmps71]) (carrackref01_above.eq t0 t1 h0 R) H

def carrackref01_digit (t0 : Value) (t1 : Value) (h0 : PH) (R : Value → PH → Prop) : Prop :=
 popO (SemP PG (Builtin.len_ #[T_sl_uint64] T_int #[t0])) fun v1 =>
 popO (SemP PG (binOp BinOp.lss T_int t1 v1)) fun v2 =>
 condV v2
 (popO (SemP PG (Instr.indexAt T_sl_uint64 t0 t1)) fun v3 =>
 popO (SemE PG h0 (Instr.loadAt T_uint64 v3)) fun v4 =>
 R v4 h0)
 (R (Value.int IntKind.u64 0) h0)
def carrackref01_digit.ann : Ann := { b := fun i => match i with  | _ => #[], ord := fun i => match i with  | _ => [], keep := fun i => match i with  | _ => [], n := 13 }
theorem carrackref01_digit.eq (t0 : Value) (t1 : Value) (h0 : PH) (R : Value → PH → Prop) : codeF PG carrackref01_digit.ann 200 (bodyOf Tryz.f88) (endH PG Tryz.f88 R) (fun t => (#[t0, t1] : Array Value).getD t undef) h0 = carrackref01_digit t0 t1 h0 R := by kernel_rfl
theorem carrackref01_digit.call {t0 : Value} {t1 : Value} {h0 : PH} {R : Value → PH → Prop} (H : carrackref01_digit t0 t1 h0 R) : CallsH PG id_carrackref01_digit #[t0, t1] h0 R :=
  callsF_by carrackref01_digit.ann 200 mix Tryz.func88 (by kernel_rfl) (by kernel_rfl) (by kernel_rfl) (by kernel_rfl) (by simp [Tryz.ntmps88]) (carrackref01_digit.eq t0 t1 h0 R) H

end Go.Proofs.YtllopddcpkhfjaaGreatDoor
/- What the contracts share: wraps, measures, fresh blocks. -/
set_option linter.unusedSimpArgs false
set_option linter.unusedVariables false
namespace Go.Proofs.YtllopddcpkhfjaaGreatDoor
open Go
theorem i64_wrap {x : Int} (h1 : -9223372036854775808 ≤ x) (h2 : x ≤ 9223372036854775807) : IntKind.i64.wrap x = x := IntWalk.i64_in _ ⟨h1, h2⟩
def upTo (n : Nat) (i : Nat) : List Value → PH → Nat := fun vs _ => match vs[i]? with
  | some (.int _ j) => n - j.toNat
  | _ => 0
def Fresh (h : PH) (F : List Nat) : Prop := ∀ b ∈ F, h b = none
theorem Fresh.one {h : PH} {a : Nat} (ha : h a = none) : Fresh h [a] := fun b hb => by simp at hb; subst hb; exact ha
theorem Ext.none {h h1 : PH} (u : Ext h h1) {b : Nat} (hb : h1 b = none) : h b = none := by
  cases e : h b with
  | none => rfl
  | some o => rw [u.get e] at hb; cases hb
theorem Fresh.grow {h h1 : PH} {F F' : List Nat} (f : Fresh h F) (u : Ext h h1) (hg : ∀ b ∈ F', b ∈ F ∨ h1 b = none) : Fresh h F' := fun b hb => by
  rcases hg b hb with h1 | h1
  · exact f b h1
  · exact u.none h1
theorem Fresh.of {h h1 : PH} {F : List Nat} (f : Fresh h1 F) (u : Ext h h1) : Fresh h F := fun b hb => u.none (f b hb)
theorem Ext.trans {h h1 h2 : PH} (u : Ext h h1) (v : Ext h1 h2) : Ext h h2 := Upd.trans u v
theorem Ext.fresh {h h1 h2 : PH} {F : List Nat} (u : Ext h h1) (v : Upd F h1 h2) (f : Fresh h F) : Ext h h2 := fun b o hb _ =>
  v b o (u.get hb) fun hm => by rw [f b hm] at hb; cases hb
theorem OwnR.ext {h h' : PH} {e : TypeId} {size : Nat} {v : Value} {rows : List (List Value)} {F : List Nat} (H : OwnR h e size v rows F) (u : Ext h h') : OwnR h' e size v rows F := H.upd u (by simp)
theorem popO_pure {α : Type} {v : α} {k : α → Prop} (hk : k v) : popO (SemP PG (pure v)) k := hk
theorem u64_wrap {x : Int} (h1 : 0 ≤ x) (h2 : x < 18446744073709551616) : IntKind.u64.wrap x = x := by
  unfold IntKind.wrap
  simp [IntKind.signed, IntKind.bits]
  omega
theorem u8_wrap (x : Int) : IntKind.u8.wrap x = x % 256 := by
  unfold IntKind.wrap
  simp [IntKind.signed, IntKind.bits]
end Go.Proofs.YtllopddcpkhfjaaGreatDoor
/- sha: what is computed, in plain Lean. -/
set_option linter.unusedSimpArgs false
set_option linter.unusedVariables false
namespace Go.Proofs.YtllopddcpkhfjaaGreatDoor
open Go
set_option maxRecDepth 20000
abbrev W := BitVec 32
def wv (x : W) : Value := .int .u32 (x.toNat : Int)
def tn (x : W) (n : Nat) : W := (x <<< (32 - n)) ||| (x >>> n)
def w4 (a b c d : UInt8) : W := ((((BitVec.ofNat 32 a.toNat) <<< 24) ||| ((BitVec.ofNat 32 b.toNat) <<< 16)) ||| ((BitVec.ofNat 32 c.toNat) <<< 8)) ||| (BitVec.ofNat 32 d.toNat)
def wat (b : List UInt8) (t : Nat) : W := w4 (b.getD (4 * t) 0) (b.getD (4 * t + 1) 0) (b.getD (4 * t + 2) 0) (b.getD (4 * t + 3) 0)
def nextW (l : List W) (t : Nat) : W :=
  let x := l.getD (t - 15) 0
  let y := l.getD (t - 2) 0
  ((l.getD (t - 16) 0 + ((tn x 7 ^^^ tn x 18) ^^^ (x >>> 3))) + l.getD (t - 7) 0) + ((tn y 17 ^^^ tn y 19) ^^^ (y >>> 10))
def wfront (b : List UInt8) (n : Nat) : List W := (List.range n).map (wat b)
def wmore (b : List UInt8) : Nat → List W
  | 0 => wfront b 16
  | n + 1 => wmore b n ++ [nextW (wmore b n) (n + 16)]
def wordsP (b : List UInt8) : List W := wmore b 48
theorem wfront_len (b : List UInt8) (n : Nat) : (wfront b n).length = n := by simp [wfront]
theorem wfront_succ (b : List UInt8) (n : Nat) : wfront b (n + 1) = wfront b n ++ [wat b n] := by simp [wfront, List.range_succ]
theorem wmore_len (b : List UInt8) : ∀ n, (wmore b n).length = n + 16
  | 0 => by simp [wmore, wfront_len]
  | n + 1 => by simp only [wmore, List.length_append, wmore_len b n, List.length_singleton]
theorem wordsP_len (b : List UInt8) : (wordsP b).length = 64 := wmore_len b 48
structure S8 where
  (a b c d e f g h : W)
def S8.l (s : S8) : List W := [s.a, s.b, s.c, s.d, s.e, s.f, s.g, s.h]
def S8.cells (s : S8) : List Value := s.l.map wv
def S8.add (s t : S8) : S8 := ⟨s.a + t.a, s.b + t.b, s.c + t.c, s.d + t.d, s.e + t.e, s.f + t.f, s.g + t.g, s.h + t.h⟩
def rnd (s : S8) (k w : W) : S8 :=
  let t1 := (((s.h + ((tn s.e 6 ^^^ tn s.e 11) ^^^ tn s.e 25)) + ((s.e &&& s.f) ^^^ (~~~s.e &&& s.g))) + k) + w
  let t2 := ((tn s.a 2 ^^^ tn s.a 13) ^^^ tn s.a 22) + (((s.a &&& s.b) ^^^ (s.a &&& s.c)) ^^^ (s.b &&& s.c))
  ⟨t1 + t2, s.a, s.b, s.c, s.d + t1, s.e, s.f, s.g⟩
def kT : List W := [
  0x428a2f98, 0x71374491, 0xb5c0fbcf, 0xe9b5dba5, 0x3956c25b, 0x59f111f1, 0x923f82a4, 0xab1c5ed5,
  0xd807aa98, 0x12835b01, 0x243185be, 0x550c7dc3, 0x72be5d74, 0x80deb1fe, 0x9bdc06a7, 0xc19bf174,
  0xe49b69c1, 0xefbe4786, 0x0fc19dc6, 0x240ca1cc, 0x2de92c6f, 0x4a7484aa, 0x5cb0a9dc, 0x76f988da,
  0x983e5152, 0xa831c66d, 0xb00327c8, 0xbf597fc7, 0xc6e00bf3, 0xd5a79147, 0x06ca6351, 0x14292967,
  0x27b70a85, 0x2e1b2138, 0x4d2c6dfc, 0x53380d13, 0x650a7354, 0x766a0abb, 0x81c2c92e, 0x92722c85,
  0xa2bfe8a1, 0xa81a664b, 0xc24b8b70, 0xc76c51a3, 0xd192e819, 0xd6990624, 0xf40e3585, 0x106aa070,
  0x19a4c116, 0x1e376c08, 0x2748774c, 0x34b0bcb5, 0x391c0cb3, 0x4ed8aa4a, 0x5b9cca4f, 0x682e6ff3,
  0x748f82ee, 0x78a5636f, 0x84c87814, 0x8cc70208, 0x90befffa, 0xa4506ceb, 0xbef9a3f7, 0xc67178f2]
theorem kT_len : kT.length = 64 := rfl
def rounds (ws : List W) (s : S8) : Nat → S8
  | 0 => s
  | n + 1 => rnd (rounds ws s n) (kT.getD n 0) (ws.getD n 0)
def mixP (s : S8) (b : List UInt8) : S8 := s.add (rounds (wordsP b) s 64)
def S0 : S8 := ⟨1779033703, 3144134277, 1013904242, 2773480762, 1359893119, 2600822924, 528734635, 1541459225⟩
/-- Whole blocks in; the rest. -/
def absorb (s : S8) (l : List UInt8) : S8 × List UInt8 := if h : 64 ≤ l.length then absorb (mixP s (l.take 64)) (l.drop 64) else (s, l)
termination_by l.length
decreasing_by simp; omega
theorem absorb_lt {s : S8} {l : List UInt8} (h : l.length < 64) : absorb s l = (s, l) := by rw [absorb, dif_neg (by omega)]
theorem absorb_ge {s : S8} {l : List UInt8} (h : 64 ≤ l.length) : absorb s l = absorb (mixP s (l.take 64)) (l.drop 64) := by rw [absorb, dif_pos h]
theorem absorb_app (s : S8) (a b : List UInt8) : absorb s (a ++ b) = absorb (absorb s a).1 ((absorb s a).2 ++ b) := by
  by_cases h : 64 ≤ a.length
  · have e1 : (a ++ b).take 64 = a.take 64 := by rw [List.take_append_of_le_length h]
    have e2 : (a ++ b).drop 64 = a.drop 64 ++ b := by rw [List.drop_append_of_le_length h]
    rw [absorb_ge (l := a ++ b) (by simp; omega), absorb_ge h, e1, e2]
    exact absorb_app (mixP s (a.take 64)) (a.drop 64) b
  · rw [absorb_lt (l := a) (by omega)]
termination_by a.length
decreasing_by simp; omega
theorem absorb_rest (s : S8) (a : List UInt8) : (absorb s a).2.length < 64 := by
  by_cases h : 64 ≤ a.length
  · rw [absorb_ge h]; exact absorb_rest _ _
  · rw [absorb_lt (by omega)]; show a.length < 64; omega
termination_by a.length
decreasing_by simp; omega
def wb (x : W) : List UInt8 := [UInt8.ofNat ((x >>> 24).toNat), UInt8.ofNat ((x >>> 16).toNat), UInt8.ofNat ((x >>> 8).toNat), UInt8.ofNat x.toNat]
def digestP (s : S8) : List UInt8 := s.l.flatMap wb
theorem digestP_len (s : S8) : (digestP s).length = 32 := rfl
def padP (n : Nat) : List UInt8 := 128 :: (List.replicate ((119 - n % 64) % 64) 0 ++ be (n * 8 % 18446744073709551616) 8)
def sha (l : List UInt8) : List UInt8 := digestP (absorb S0 (l ++ padP l.length)).1
theorem sha_len (l : List UInt8) : (sha l).length = 32 := rfl
/-! ### words of 32 bits -/
section
variable {P : Program} {t : TypeId} {x y : W} {h : PH}
theorem u32_wrap (x : Int) : IntKind.u32.wrap x = x % 4294967296 := by
  rfl
theorem ofInt_nat (x : W) : BitVec.ofInt 32 (x.toNat : Int) = x := by
  apply BitVec.eq_of_toInt_eq
  rw [BitVec.toInt_ofInt, BitVec.toInt_eq_toNat_bmod]
theorem w_add : SemP P (binOp .add t (wv x) (wv y)) = some (wv (x + y)) := by
  unfold wv
  rw [add_eq, u32_wrap, BitVec.toNat_add, ← Int.natCast_add]
  rfl
theorem w_wrap (x : W) : IntKind.u32.wrap (x.toNat : Int) = x.toNat := by
  rw [u32_wrap]
  have := x.isLt
  omega
theorem w_and : SemP P (binOp .and t (wv x) (wv y)) = some (wv (x &&& y)) := by
  have e : SemP P (binOp .and t (wv x) (wv y)) = some (.int .u32 (IntKind.u32.wrap ((BitVec.ofInt 32 (x.toNat : Int) &&& BitVec.ofInt 32 (y.toNat : Int)).toNat : Int))) := rfl
  rw [e, ofInt_nat, ofInt_nat, w_wrap]; rfl
theorem w_or : SemP P (binOp .or t (wv x) (wv y)) = some (wv (x ||| y)) := by
  have e : SemP P (binOp .or t (wv x) (wv y)) = some (.int .u32 (IntKind.u32.wrap ((BitVec.ofInt 32 (x.toNat : Int) ||| BitVec.ofInt 32 (y.toNat : Int)).toNat : Int))) := rfl
  rw [e, ofInt_nat, ofInt_nat, w_wrap]; rfl
theorem w_xor : SemP P (binOp .xor t (wv x) (wv y)) = some (wv (x ^^^ y)) := by
  have e : SemP P (binOp .xor t (wv x) (wv y)) = some (.int .u32 (IntKind.u32.wrap ((BitVec.ofInt 32 (x.toNat : Int) ^^^ BitVec.ofInt 32 (y.toNat : Int)).toNat : Int))) := rfl
  rw [e, ofInt_nat, ofInt_nat, w_wrap]; rfl
theorem w_not : SemP P (Op.unary .xor (wv x)) = some (wv (~~~x)) := by
  have e : SemP P (Op.unary .xor (wv x)) = some (.int .u32 (IntKind.u32.wrap ((BitVec.ofInt 32 4294967295 ^^^ BitVec.ofInt 32 (x.toNat : Int)).toNat : Int))) := rfl
  rw [e, ofInt_nat, w_wrap]
  have : BitVec.ofInt 32 4294967295 ^^^ x = ~~~x := by
    have : BitVec.ofInt 32 4294967295 = BitVec.allOnes 32 := by decide
    rw [this, BitVec.allOnes_xor]
  rw [this]; rfl
theorem w_shr {k : IntKind} {n : Nat} (hn : n ≤ 32) : SemP P (binOp .shr t (wv x) (.int k n)) = some (wv (x >>> n)) := by
  unfold wv
  rw [shr_eq (by omega)]
  congr 2
  rw [BitVec.toNat_ushiftRight, Nat.shiftRight_eq_div_pow]
  have e : min ((n : Int).toNat) (IntKind.u32.bits) = n := by
    show min n 32 = n
    omega
  rw [e, Int.fdiv_eq_ediv_of_nonneg _ (Int.pow_nonneg (by decide)), Int.natCast_ediv, Int.natCast_pow]
  rfl
theorem w_shl {k : IntKind} {n : Nat} (hn : n ≤ 32) : SemP P (binOp .shl t (wv x) (.int k n)) = some (wv (x <<< n)) := by
  unfold wv
  rw [shl_eq (by omega)]
  congr 2
  have e : min ((n : Int).toNat) (IntKind.u32.bits) = n := by
    show min n 32 = n
    omega
  rw [e, u32_wrap, BitVec.toNat_shiftLeft, Nat.shiftLeft_eq, Int.natCast_emod, Int.natCast_mul, Int.natCast_pow]
  rfl
end
end Go.Proofs.YtllopddcpkhfjaaGreatDoor
