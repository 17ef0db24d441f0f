/- What the functions of this program do on a part of memory, by program (prt.py) out of Lean's own print of them; for each the theorem that its code is that. -/
import Derived.Test.YtdgcpeinkjnncaaTy
set_option maxRecDepth 100000
set_option linter.unusedVariables false
namespace Go.Proofs.Ytdgcpeinkjnncaa
open Go
def carracklaw15_TableLives_k231 (R : Value → PH → Prop) (t9 : Value) (t12 : Value) (t19 : Value) (h0 : PH) : Prop :=
 popO (SemE PG h0 (Instr.loadAt T_api_Note t19)) fun v232 =>
 CallsH PG id_table_Table_Apply #[t9, v232] h0 fun v233 h234 =>
 popO (SemE PG h234 (binS BinOp.eql T_api_Errno (.tmp 142) (.const (Value.int IntKind.i64 0)) v233 (Value.int IntKind.i64 0))) fun v235 =>
 gopV (yV v235) true (fun k238 => k238 t9 h234) h234 fun v236 h237 =>
 gopV (yV v235) true (fun k241 => popO (SemE PG h237 (Instr.loadAt T_api_Note t19)) fun v242 => k241 v242 h237) h237 fun v239 h240 =>
 gopV (yV v235) true (fun k245 => CallsH PG id_table_Table_Apply #[v236, v239] h240 fun v246 h247 => k245 v246 h247) h240 fun v243 h244 =>
 gopV (yV v235) true (fun k250 => popO (SemE PG h244 (binS BinOp.eql T_api_Errno (.tmp 147) (.const (Value.int IntKind.i64 0)) v243 (Value.int IntKind.i64 0))) fun v251 => k250 v251 h244) h244 fun v248 h249 =>
 popO (pickV v235 v248 (Value.bool false)) fun v252 =>
 gopV (yV v252) true (fun k255 => k255 t9 h249) h249 fun v253 h254 =>
 gopV (yV v252) true (fun k258 => CallsH PG id_table_Table_Items #[v253] h254 fun v259 h260 => k258 v259 h260) h254 fun v256 h257 =>
 gopV (yV v252) true (fun k263 => k263 t12 h257) h257 fun v261 h262 =>
 gopV (yV v252) true (fun k266 => CallsH PG id_carrackref14_SameItems #[v256, v261] h262 fun v267 h268 => k266 v267 h268) h262 fun v264 h265 =>
 popO (pickV v252 v264 (Value.bool false)) fun v269 =>
 R v269 h265
def carracklaw15_TableLives_k145 (R : Value → PH → Prop) (t3 : Value) (t5 : Value) (t9 : Value) (t12 : Value) (t13 : Value) (t14 : Value) (h0 : PH) : Prop :=
 popO (SemE PG h0 (Instr.loadAt T_api_Note t13)) fun v146 =>
 CallsH PG id_table_Table_Apply #[t9, v146] h0 fun v147 h148 =>
 popO (SemE PG h148 (Instr.loadAt T_api_Note t14)) fun v149 =>
 CallsH PG id_table_Table_Apply #[t9, v149] h148 fun v150 h151 =>
 popO (SemP PG (Instr.fieldAt T_api_Packet t5 0)) fun v152 =>
 popO (SemE PG h151 (Instr.loadAt T_int v152)) fun v153 =>
 popO (SemP PG (Instr.fieldAt T_api_Packet t5 1)) fun v154 =>
 popO (SemE PG h151 (Instr.loadAt T_uint64 v154)) fun v155 =>
 CallsH PG id_table_Table_Get #[t9, v153, v155] h151 fun v156 h157 =>
 popO (SemP PG (Instr.extract v156 0)) fun v158 =>
 popO (SemP PG (Instr.extract v156 1)) fun v159 =>
 ∀ r160, h157 r160 = none → bindH (PH.set h157 r160 (.cells (zcells PG T_api_Item) T_api_Item)) fun h161 =>
 SemH PG (storeS T_api_Item (Value.pointer (some ⟨r160, 0, none⟩)) v158) h161 fun v162 h163 =>
 popO (SemE PG h163 (binS BinOp.neq T_api_Errno (.tmp 112) (.const (Value.int IntKind.i64 0)) v147 (Value.int IntKind.i64 0))) fun v164 =>
 gopV (yV v164) false (fun k167 => k167 v150 h163) h163 fun v165 h166 =>
 gopV (yV v164) false (fun k170 => popO (SemE PG h166 (binS BinOp.neq T_api_Errno (.tmp 115) (.const (Value.int IntKind.i64 0)) v165 (Value.int IntKind.i64 0))) fun v171 => k170 v171 h166) h166 fun v168 h169 =>
 popO (pickV v164 (Value.bool true) v168) fun v172 =>
 gopV (yV v172) false (fun k175 => k175 v159 h169) h169 fun v173 h174 =>
 gopV (yV v172) false (fun k178 => popO (SemP PG (Op.unary UnOp.not v173)) fun v179 => k178 v179 h174) h174 fun v176 h177 =>
 popO (pickV v172 (Value.bool true) v176) fun v180 =>
 gopV (yV v180) false (fun k183 => popO (SemE PG h177 (Instr.loadAt T_api_Item (Value.pointer (some ⟨r160, 0, none⟩)))) fun v184 => k183 v184 h177) h177 fun v181 h182 =>
 gopV (yV v180) false (fun k187 => popO (SemE PG h182 (Instr.loadAt T_api_Packet t5)) fun v188 => k187 v188 h182) h182 fun v185 h186 =>
 gopV (yV v180) false (fun k191 => popO (SemP PG (Instr.build T_api_Item #[(0, v185), (1, (Value.int IntKind.i64 2))])) fun v192 => k191 v192 h186) h186 fun v189 h190 =>
 gopV (yV v180) false (fun k195 => popO (SemE PG h190 (binS BinOp.neq T_api_Item (.tmp 123) (.tmp 125) v181 v189)) fun v196 => k195 v196 h190) h190 fun v193 h194 =>
 popO (pickV v180 (Value.bool true) v193) fun v197 =>
 gopV (yV v197) false (fun k200 => k200 t9 h194) h194 fun v198 h199 =>
 gopV (yV v197) false (fun k203 => CallsH PG id_table_Table_Len #[v198] h199 fun v204 h205 => k203 v204 h205) h199 fun v201 h202 =>
 gopV (yV v197) false (fun k208 => k208 t12 h202) h202 fun v206 h207 =>
 gopV (yV v197) false (fun k211 => popO (SemP PG (Builtin.len_ #[T_sl_api_Item] T_int #[v206])) fun v212 => k211 v212 h207) h207 fun v209 h210 =>
 gopV (yV v197) false (fun k215 => popO (SemP PG (binOp BinOp.add T_int v209 (Value.int IntKind.i64 1))) fun v216 => k215 v216 h210) h210 fun v213 h214 =>
 gopV (yV v197) false (fun k219 => popO (SemE PG h214 (binS BinOp.neq T_int (.tmp 130) (.tmp 133) v201 v213)) fun v220 => k219 v220 h214) h214 fun v217 h218 =>
 popO (pickV v197 (Value.bool true) v217) fun v221 =>
 condV v221
 (R (Value.bool false) h218)
 (popO (SemE PG h218 (Instr.loadAt T_api_Packet t5)) fun v222 =>
 popO (SemP PG (Instr.build T_api_Note #[(0, (Value.int IntKind.i64 3)), (1, v222)])) fun v223 =>
 ∀ r224, h218 r224 = none → bindH (PH.set h218 r224 (.cells (zcells PG T_api_Note) T_api_Note)) fun h225 =>
 SemH PG (storeS T_api_Note (Value.pointer (some ⟨r224, 0, none⟩)) v223) h225 fun v226 h227 =>
 condV t3
 (popO (SemP PG (Instr.fieldAt T_api_Note (Value.pointer (some ⟨r224, 0, none⟩)) 0)) fun v228 =>
 SemH PG (storeS T_int v228 (Value.int IntKind.i64 4)) h227 fun v229 h230 =>
 carracklaw15_TableLives_k231 R t9 t12 (Value.pointer (some ⟨r224, 0, none⟩)) h230)
 (carracklaw15_TableLives_k231 R t9 t12 (Value.pointer (some ⟨r224, 0, none⟩)) h227))
def carracklaw15_TableLives_b109 (R : Value → PH → Prop) (n108 : List Value → PH → Prop) (t0 : Value) (t2 : Value) (t3 : Value) (t5 : Value) (t9 : Value) (t11 : Value) (h0 : PH) : Prop :=
 popO (SemP PG (Builtin.len_ #[T_sl_carrackref15_Act] T_int #[t0])) fun v110 =>
 popO (SemP PG (binOp BinOp.lss T_int t11 v110)) fun v111 =>
 condV v111
 (popO (SemP PG (Instr.indexAt T_sl_carrackref15_Act t0 t11)) fun v112 =>
 popO (SemE PG h0 (Instr.loadAt T_carrackref15_Act v112)) fun v113 =>
 CallsH PG id_carracklaw15_do #[t9, v113] h0 fun v114 h115 =>
 popO (SemP PG (binOp BinOp.add T_int t11 (Value.int IntKind.i64 1))) fun v116 =>
 n108 [t0, t2, t3, t5, t9, v116] h115)
 (popO (SemP PG (Instr.fieldAt T_api_Packet t5 0)) fun v117 =>
 popO (SemE PG h0 (Instr.loadAt T_int v117)) fun v118 =>
 popO (SemP PG (Instr.fieldAt T_api_Packet t5 1)) fun v119 =>
 popO (SemE PG h0 (Instr.loadAt T_uint64 v119)) fun v120 =>
 CallsH PG id_table_Table_Drop #[t9, v118, v120] h0 fun v121 h122 =>
 CallsH PG id_table_Table_Items #[t9] h122 fun v123 h124 =>
 popO (SemP PG (Builtin.len_ #[T_sl_api_Item] T_int #[v123])) fun v125 =>
 popO (SemE PG h124 (binS BinOp.eql T_int (.tmp 88) (.const (Value.int IntKind.i64 40)) v125 (Value.int IntKind.i64 40))) fun v126 =>
 condV v126
 (R (Value.bool true) h124)
 (popO (SemE PG h124 (Instr.loadAt T_api_Packet t5)) fun v127 =>
 popO (SemP PG (Instr.build T_api_Note #[(0, (Value.int IntKind.i64 1)), (1, v127)])) fun v128 =>
 ∀ r129, h124 r129 = none → bindH (PH.set h124 r129 (.cells (zcells PG T_api_Note) T_api_Note)) fun h130 =>
 SemH PG (storeS T_api_Note (Value.pointer (some ⟨r129, 0, none⟩)) v128) h130 fun v131 h132 =>
 popO (SemE PG h132 (Instr.loadAt T_api_Packet t5)) fun v133 =>
 popO (SemP PG (Instr.build T_api_Note #[(0, (Value.int IntKind.i64 2)), (1, v133)])) fun v134 =>
 ∀ r135, h132 r135 = none → bindH (PH.set h132 r135 (.cells (zcells PG T_api_Note) T_api_Note)) fun h136 =>
 SemH PG (storeS T_api_Note (Value.pointer (some ⟨r135, 0, none⟩)) v134) h136 fun v137 h138 =>
 condV t2
 (popO (SemE PG h138 (Instr.loadAt T_api_Note (Value.pointer (some ⟨r135, 0, none⟩)))) fun v139 =>
 popO (SemE PG h138 (Instr.loadAt T_api_Note (Value.pointer (some ⟨r129, 0, none⟩)))) fun v140 =>
 SemH PG (storeS T_api_Note (Value.pointer (some ⟨r129, 0, none⟩)) v139) h138 fun v141 h142 =>
 SemH PG (storeS T_api_Note (Value.pointer (some ⟨r135, 0, none⟩)) v140) h142 fun v143 h144 =>
 carracklaw15_TableLives_k145 R t3 t5 t9 v123 (Value.pointer (some ⟨r129, 0, none⟩)) (Value.pointer (some ⟨r135, 0, none⟩)) h144)
 (carracklaw15_TableLives_k145 R t3 t5 t9 v123 (Value.pointer (some ⟨r129, 0, none⟩)) (Value.pointer (some ⟨r135, 0, none⟩)) h138)))
def carracklaw15_TableLives (t0 : Value) (t1 : Value) (t2 : Value) (t3 : Value) (h0 : PH) (R : Value → PH → Prop) : Prop :=
 ∀ r1, h0 r1 = none → bindH (PH.set h0 r1 (.cells (Value.cells t1) T_api_Packet)) fun h2 =>
 CallsH PG id_carracklaw15_awake #[] h2 fun v3 h4 =>
 popO (SemP PG (Op.unary UnOp.not v3)) fun v5 =>
 condV v5
 (R (Value.bool false) h4)
 (popO (SemP PG (Builtin.len_ #[T_sl_carrackref15_Act] T_int #[t0])) fun v6 =>
 popO (SemP PG (binOp BinOp.gtr T_int v6 (Value.int IntKind.i64 100))) fun v7 =>
 gopV (yV v7) false (fun k10 => k10 t0 h4) h4 fun v8 h9 =>
 gopV (yV v7) false (fun k13 => CallsH PG id_carracklaw15_notes #[v8] h9 fun v14 h15 => k13 v14 h15) h9 fun v11 h12 =>
 gopV (yV v7) false (fun k18 => CallsH PG id_carracklaw15_few #[v11] h12 fun v19 h20 => k18 v19 h20) h12 fun v16 h17 =>
 gopV (yV v7) false (fun k23 => popO (SemP PG (Op.unary UnOp.not v16)) fun v24 => k23 v24 h17) h17 fun v21 h22 =>
 popO (pickV v7 (Value.bool true) v21) fun v25 =>
 gopV (yV v25) false (fun k28 => popO (SemP PG (Instr.fieldAt T_api_Packet (Value.pointer (some ⟨r1, 0, none⟩)) 3)) fun v29 => k28 v29 h22) h22 fun v26 h27 =>
 gopV (yV v25) false (fun k32 => popO (SemE PG h27 (Instr.loadAt T_string v26)) fun v33 => k32 v33 h27) h27 fun v30 h31 =>
 gopV (yV v25) false (fun k36 => popO (SemP PG (Builtin.len_ #[T_string] T_int #[v30])) fun v37 => k36 v37 h31) h31 fun v34 h35 =>
 gopV (yV v25) false (fun k40 => popO (SemP PG (binOp BinOp.gtr T_int v34 (Value.int IntKind.i64 64))) fun v41 => k40 v41 h35) h35 fun v38 h39 =>
 popO (pickV v25 (Value.bool true) v38) fun v42 =>
 gopV (yV v42) false (fun k45 => popO (SemP PG (Instr.fieldAt T_api_Packet (Value.pointer (some ⟨r1, 0, none⟩)) 0)) fun v46 => k45 v46 h39) h39 fun v43 h44 =>
 gopV (yV v42) false (fun k49 => popO (SemE PG h44 (Instr.loadAt T_int v43)) fun v50 => k49 v50 h44) h44 fun v47 h48 =>
 gopV (yV v42) false (fun k53 => popO (SemP PG (binOp BinOp.lss T_int v47 (Value.int IntKind.i64 0))) fun v54 => k53 v54 h48) h48 fun v51 h52 =>
 popO (pickV v42 (Value.bool true) v51) fun v55 =>
 gopV (yV v55) false (fun k58 => popO (SemP PG (Instr.fieldAt T_api_Packet (Value.pointer (some ⟨r1, 0, none⟩)) 0)) fun v59 => k58 v59 h52) h52 fun v56 h57 =>
 gopV (yV v55) false (fun k62 => popO (SemE PG h57 (Instr.loadAt T_int v56)) fun v63 => k62 v63 h57) h57 fun v60 h61 =>
 gopV (yV v55) false (fun k66 => popO (SemP PG (binOp BinOp.gtr T_int v60 (Value.int IntKind.i64 1))) fun v67 => k66 v67 h61) h61 fun v64 h65 =>
 popO (pickV v55 (Value.bool true) v64) fun v68 =>
 gopV (yV v68) false (fun k71 => popO (SemP PG (Instr.fieldAt T_api_Packet (Value.pointer (some ⟨r1, 0, none⟩)) 1)) fun v72 => k71 v72 h65) h65 fun v69 h70 =>
 gopV (yV v68) false (fun k75 => popO (SemE PG h70 (Instr.loadAt T_uint64 v69)) fun v76 => k75 v76 h70) h70 fun v73 h74 =>
 gopV (yV v68) false (fun k79 => popO (SemE PG h74 (binS BinOp.eql T_uint64 (.tmp 49) (.const (Value.int IntKind.u64 0)) v73 (Value.int IntKind.u64 0))) fun v80 => k79 v80 h74) h74 fun v77 h78 =>
 popO (pickV v68 (Value.bool true) v77) fun v81 =>
 gopV (yV v81) false (fun k84 => popO (SemP PG (Instr.fieldAt T_api_Packet (Value.pointer (some ⟨r1, 0, none⟩)) 2)) fun v85 => k84 v85 h78) h78 fun v82 h83 =>
 gopV (yV v81) false (fun k88 => popO (SemE PG h83 (Instr.loadAt T_uint64 v82)) fun v89 => k88 v89 h83) h83 fun v86 h87 =>
 gopV (yV v81) false (fun k92 => popO (SemE PG h87 (binS BinOp.eql T_uint64 (.tmp 54) (.const (Value.int IntKind.u64 0)) v86 (Value.int IntKind.u64 0))) fun v93 => k92 v93 h87) h87 fun v90 h91 =>
 popO (pickV v81 (Value.bool true) v90) fun v94 =>
 condV v94
 (R (Value.bool true) h91)
 (CallsH PG id_table_New #[(Value.int IntKind.i64 40)] h91 fun v95 h96 =>
 popO (SemP PG (Instr.extract v95 0)) fun v97 =>
 popO (SemP PG (Instr.extract v95 1)) fun v98 =>
 popO (SemE PG h96 (binS BinOp.neq T_api_Errno (.tmp 61) (.const (Value.int IntKind.i64 0)) v98 (Value.int IntKind.i64 0))) fun v99 =>
 gopV (yV v99) false (fun k102 => k102 v97 h96) h96 fun v100 h101 =>
 gopV (yV v99) false (fun k105 => popO (SemE PG h101 (binS BinOp.eql T_p_table_Table (.tmp 64) (.const (Value.pointer none)) v100 (Value.pointer none))) fun v106 => k105 v106 h101) h101 fun v103 h104 =>
 popO (pickV v99 (Value.bool true) v103) fun v107 =>
 condV v107
 (R (Value.bool false) h104)
 (LoopL [0, 2, 3, 5, 9, 11] (fun n108 ρ h => carracklaw15_TableLives_b109 R n108 (ρ 0) (ρ 2) (ρ 3) (ρ 5) (ρ 9) (ρ 11) h) [t0, t2, t3, (Value.pointer (some ⟨r1, 0, none⟩)), v97, (Value.int IntKind.i64 0)] h104)))
def carracklaw15_TableLives.ann : Ann := { b := fun i => match i with  | _ => #[], ord := fun i => match i with  | _ => [], keep := fun i => match i with | 9 => [0, 2, 3, 5, 9, 11] | _ => [], n := 156 }
theorem carracklaw15_TableLives.eq (t0 : Value) (t1 : Value) (t2 : Value) (t3 : Value) (h0 : PH) (R : Value → PH → Prop) : codeF PG carracklaw15_TableLives.ann 200 (bodyOf Try.f3) (endH PG Try.f3 R) (fun t => (#[t0, t1, t2, t3] : Array Value).getD t undef) h0 = carracklaw15_TableLives t0 t1 t2 t3 h0 R := by kernel_rfl
theorem carracklaw15_TableLives.call {t0 : Value} {t1 : Value} {t2 : Value} {t3 : Value} {h0 : PH} {R : Value → PH → Prop} (H : carracklaw15_TableLives t0 t1 t2 t3 h0 R) : CallsH PG id_carracklaw15_TableLives #[t0, t1, t2, t3] h0 R :=
  callsF_by carracklaw15_TableLives.ann 200 mix Try.func3 (by kernel_rfl) (by kernel_rfl) (by kernel_rfl) (by kernel_rfl) (by simp [Try.ntmps3]) (carracklaw15_TableLives.eq t0 t1 t2 t3 h0 R) H

def carracklaw15_awake (h0 : PH) (R : Value → PH → Prop) : Prop :=
 CallsH PG id_table_New #[(Value.int IntKind.i64 1)] h0 fun v1 h2 =>
 popO (SemP PG (Instr.extract v1 0)) fun v3 =>
 popO (SemP PG (Instr.extract v1 1)) fun v4 =>
 popO (SemE PG h2 (binS BinOp.neq T_api_Errno (.tmp 11) (.const (Value.int IntKind.i64 0)) v4 (Value.int IntKind.i64 0))) fun v5 =>
 gopV (yV v5) false (fun k8 => k8 v3 h2) h2 fun v6 h7 =>
 gopV (yV v5) false (fun k11 => popO (SemE PG h7 (binS BinOp.eql T_p_table_Table (.tmp 14) (.const (Value.pointer none)) v6 (Value.pointer none))) fun v12 => k11 v12 h7) h7 fun v9 h10 =>
 popO (pickV v5 (Value.bool true) v9) fun v13 =>
 condV v13
 (R (Value.bool false) h10)
 (CallsH PG id_carracklaw15_one #[(Value.int IntKind.i64 1), (Value.int IntKind.u64 1)] h10 fun v14 h15 =>
 CallsH PG id_table_Table_Apply #[v3, v14] h15 fun v16 h17 =>
 CallsH PG id_carracklaw15_one #[(Value.int IntKind.i64 1), (Value.int IntKind.u64 2)] h17 fun v18 h19 =>
 CallsH PG id_table_Table_Apply #[v3, v18] h19 fun v20 h21 =>
 CallsH PG id_carracklaw15_one #[(Value.int IntKind.i64 3), (Value.int IntKind.u64 1)] h21 fun v22 h23 =>
 CallsH PG id_table_Table_Apply #[v3, v22] h23 fun v24 h25 =>
 CallsH PG id_carracklaw15_one #[(Value.int IntKind.i64 1), (Value.int IntKind.u64 2)] h25 fun v26 h27 =>
 CallsH PG id_table_Table_Apply #[v3, v26] h27 fun v28 h29 =>
 popO (SemE PG h29 (binS BinOp.eql T_api_Errno (.tmp 29) (.const (Value.int IntKind.i64 0)) v16 (Value.int IntKind.i64 0))) fun v30 =>
 gopV (yV v30) true (fun k33 => k33 v20 h29) h29 fun v31 h32 =>
 gopV (yV v30) true (fun k36 => popO (SemE PG h32 (binS BinOp.eql T_api_Errno (.tmp 32) (.const (Value.int IntKind.i64 2)) v31 (Value.int IntKind.i64 2))) fun v37 => k36 v37 h32) h32 fun v34 h35 =>
 popO (pickV v30 v34 (Value.bool false)) fun v38 =>
 gopV (yV v38) true (fun k41 => k41 v24 h35) h35 fun v39 h40 =>
 gopV (yV v38) true (fun k44 => popO (SemE PG h40 (binS BinOp.eql T_api_Errno (.tmp 36) (.const (Value.int IntKind.i64 0)) v39 (Value.int IntKind.i64 0))) fun v45 => k44 v45 h40) h40 fun v42 h43 =>
 popO (pickV v38 v42 (Value.bool false)) fun v46 =>
 gopV (yV v46) true (fun k49 => k49 v28 h43) h43 fun v47 h48 =>
 gopV (yV v46) true (fun k52 => popO (SemE PG h48 (binS BinOp.eql T_api_Errno (.tmp 40) (.const (Value.int IntKind.i64 0)) v47 (Value.int IntKind.i64 0))) fun v53 => k52 v53 h48) h48 fun v50 h51 =>
 popO (pickV v46 v50 (Value.bool false)) fun v54 =>
 gopV (yV v54) true (fun k57 => k57 v3 h51) h51 fun v55 h56 =>
 gopV (yV v54) true (fun k60 => CallsH PG id_table_Table_Len #[v55] h56 fun v61 h62 => k60 v61 h62) h56 fun v58 h59 =>
 gopV (yV v54) true (fun k65 => popO (SemE PG h59 (binS BinOp.eql T_int (.tmp 45) (.const (Value.int IntKind.i64 1)) v58 (Value.int IntKind.i64 1))) fun v66 => k65 v66 h59) h59 fun v63 h64 =>
 popO (pickV v54 v63 (Value.bool false)) fun v67 =>
 R v67 h64)
def carracklaw15_awake.ann : Ann := { b := fun i => match i with  | _ => #[], ord := fun i => match i with  | _ => [], keep := fun i => match i with  | _ => [], n := 48 }
theorem carracklaw15_awake.eq (h0 : PH) (R : Value → PH → Prop) : codeF PG carracklaw15_awake.ann 200 (bodyOf Try.f8) (endH PG Try.f8 R) (fun t => (#[] : Array Value).getD t undef) h0 = carracklaw15_awake  h0 R := by kernel_rfl
theorem carracklaw15_awake.call {h0 : PH} {R : Value → PH → Prop} (H : carracklaw15_awake  h0 R) : CallsH PG id_carracklaw15_awake #[] h0 R :=
  callsF_by carracklaw15_awake.ann 200 mix Try.func8 (by kernel_rfl) (by kernel_rfl) (by kernel_rfl) (by kernel_rfl) (by simp [Try.ntmps8]) (carracklaw15_awake.eq  h0 R) H

def table_New (t0 : Value) (h0 : PH) (R : Value → PH → Prop) : Prop :=
 popO (SemP PG (binOp BinOp.lss T_int t0 (Value.int IntKind.i64 1))) fun v1 =>
 gopV (yV v1) false (fun k4 => k4 t0 h0) h0 fun v2 h3 =>
 gopV (yV v1) false (fun k7 => popO (SemP PG (binOp BinOp.gtr T_int v2 (Value.int IntKind.i64 40))) fun v8 => k7 v8 h3) h3 fun v5 h6 =>
 popO (pickV v1 (Value.bool true) v5) fun v9 =>
 condV v9
 (R (Value.tuple #[(Value.pointer none), (Value.int IntKind.i64 1)]) h6)
 (popO (SemA PG (Instr.makeMap T_map_table_id_api_Item none)) fun x11 => ∀ r10, h6 r10 = none → popO (SemP PG (x11.2 r10)) fun v12 => bindH (PH.set h6 r10 x11.1) fun h13 =>
 popO (SemP PG (Instr.build T_table_Table #[(0, v12), (1, t0)])) fun v14 =>
 ∀ r15, h13 r15 = none → bindH (PH.set h13 r15 (.cells (Value.cells v14) T_table_Table)) fun h16 =>
 R (Value.tuple #[(Value.pointer (some ⟨r15, 0, none⟩)), (Value.int IntKind.i64 0)]) h16)
def table_New.ann : Ann := { b := fun i => match i with  | _ => #[], ord := fun i => match i with  | _ => [], keep := fun i => match i with  | _ => [], n := 14 }
theorem table_New.eq (t0 : Value) (h0 : PH) (R : Value → PH → Prop) : codeF PG table_New.ann 200 (bodyOf Try.f11) (endH PG Try.f11 R) (fun t => (#[t0] : Array Value).getD t undef) h0 = table_New t0 h0 R := by kernel_rfl
theorem table_New.call {t0 : Value} {h0 : PH} {R : Value → PH → Prop} (H : table_New t0 h0 R) : CallsH PG id_table_New #[t0] h0 R :=
  callsF_by table_New.ann 200 mix Try.func11 (by kernel_rfl) (by kernel_rfl) (by kernel_rfl) (by kernel_rfl) (by simp [Try.ntmps11]) (table_New.eq t0 h0 R) H

def table_Table_Apply (t0 : Value) (t1 : Value) (h0 : PH) (R : Value → PH → Prop) : Prop :=
 ∀ r1, h0 r1 = none → bindH (PH.set h0 r1 (.cells (Value.cells t1) T_api_Note)) fun h2 =>
 popO (SemE PG h2 (Instr.loadAt T_api_Note (Value.pointer (some ⟨r1, 0, none⟩)))) fun v3 =>
 CallsH PG id_note_Check #[v3] h2 fun v4 h5 =>
 popO (SemE PG h5 (binS BinOp.neq T_api_Errno (.tmp 9) (.const (Value.int IntKind.i64 0)) v4 (Value.int IntKind.i64 0))) fun v6 =>
 condV v6
 (R v4 h5)
 (popO (SemP PG (Instr.build T_5_functable_Table_table_id_api_Packet_api_Errno #[(1, (Value.func (Fn.func id_table_Table_sent) #[] #[])), (2, (Value.func (Fn.func id_table_Table_received) #[] #[])), (3, (Value.func (Fn.func id_table_Table_over) #[] #[])), (4, (Value.func (Fn.func id_table_Table_over) #[] #[]))])) fun v7 =>
 ∀ r8, h5 r8 = none → bindH (PH.set h5 r8 (.cells (zcells PG T_5_functable_Table_table_id_api_Packet_api_Errno) T_5_functable_Table_table_id_api_Packet_api_Errno)) fun h9 =>
 SemH PG (storeS T_5_functable_Table_table_id_api_Packet_api_Errno (Value.pointer (some ⟨r8, 0, none⟩)) v7) h9 fun v10 h11 =>
 popO (SemP PG (Instr.fieldAt T_api_Note (Value.pointer (some ⟨r1, 0, none⟩)) 0)) fun v12 =>
 popO (SemE PG h11 (Instr.loadAt T_int v12)) fun v13 =>
 popO (SemP PG (Instr.indexAt T_5_functable_Table_table_id_api_Packet_api_Errno (Value.pointer (some ⟨r8, 0, none⟩)) v13)) fun v14 =>
 popO (SemE PG h11 (Instr.loadAt T_functable_Table_table_id_api_Packet_api_Errno v14)) fun v15 =>
 popO (SemP PG (Instr.fieldAt T_api_Note (Value.pointer (some ⟨r1, 0, none⟩)) 1)) fun v16 =>
 popO (SemP PG (Instr.fieldAt T_api_Packet v16 0)) fun v17 =>
 popO (SemE PG h11 (Instr.loadAt T_int v17)) fun v18 =>
 popO (SemP PG (Instr.fieldAt T_api_Note (Value.pointer (some ⟨r1, 0, none⟩)) 1)) fun v19 =>
 popO (SemP PG (Instr.fieldAt T_api_Packet v19 1)) fun v20 =>
 popO (SemE PG h11 (Instr.loadAt T_uint64 v20)) fun v21 =>
 popO (SemP PG (Instr.build T_table_id #[(0, v18), (1, v21)])) fun v22 =>
 popO (SemP PG (Instr.fieldAt T_api_Note (Value.pointer (some ⟨r1, 0, none⟩)) 1)) fun v23 =>
 popO (SemE PG h11 (Instr.loadAt T_api_Packet v23)) fun v24 =>
 callC PG v15 #[t0, v22, v24] h11 fun v25 h26 =>
 (R v25 h26))
def table_Table_Apply.ann : Ann := { b := fun i => match i with | 5 => #[0, 1, 3, 7, 0, 0, 32, 96, 0, 256, 768, 2016, 0, 4096, 16383, 32767] | _ => #[], ord := fun i => match i with | 5 => [0, 1, 2, 3, 4, 5, 6, 7, 8, 9, 10, 11, 12, 13, 14, 15] | _ => [], keep := fun i => match i with  | _ => [], n := 28 }
theorem table_Table_Apply.eq (t0 : Value) (t1 : Value) (h0 : PH) (R : Value → PH → Prop) : codeF PG table_Table_Apply.ann 200 (bodyOf Try.f15) (endH PG Try.f15 R) (fun t => (#[t0, t1] : Array Value).getD t undef) h0 = table_Table_Apply t0 t1 h0 R := by kernel_rfl
theorem table_Table_Apply.call {t0 : Value} {t1 : Value} {h0 : PH} {R : Value → PH → Prop} (H : table_Table_Apply t0 t1 h0 R) : CallsH PG id_table_Table_Apply #[t0, t1] h0 R :=
  callsF_by table_Table_Apply.ann 200 mix Try.func15 (by kernel_rfl) (by kernel_rfl) (by kernel_rfl) (by kernel_rfl) (by simp [Try.ntmps15]) (table_Table_Apply.eq t0 t1 h0 R) H

def note_Check (t0 : Value) (h0 : PH) (R : Value → PH → Prop) : Prop :=
 ∀ r1, h0 r1 = none → bindH (PH.set h0 r1 (.cells (Value.cells t0) T_api_Note)) fun h2 =>
 popO (SemP PG (Instr.fieldAt T_api_Note (Value.pointer (some ⟨r1, 0, none⟩)) 0)) fun v3 =>
 popO (SemE PG h2 (Instr.loadAt T_int v3)) fun v4 =>
 popO (SemP PG (binOp BinOp.lss T_int v4 (Value.int IntKind.i64 1))) fun v5 =>
 gopV (yV v5) false (fun k8 => popO (SemP PG (Instr.fieldAt T_api_Note (Value.pointer (some ⟨r1, 0, none⟩)) 0)) fun v9 => k8 v9 h2) h2 fun v6 h7 =>
 gopV (yV v5) false (fun k12 => popO (SemE PG h7 (Instr.loadAt T_int v6)) fun v13 => k12 v13 h7) h7 fun v10 h11 =>
 gopV (yV v5) false (fun k16 => popO (SemP PG (binOp BinOp.gtr T_int v10 (Value.int IntKind.i64 4))) fun v17 => k16 v17 h11) h11 fun v14 h15 =>
 popO (pickV v5 (Value.bool true) v14) fun v18 =>
 condV v18
 (R (Value.int IntKind.i64 1) h15)
 (popO (SemP PG (Instr.fieldAt T_api_Note (Value.pointer (some ⟨r1, 0, none⟩)) 1)) fun v19 =>
 popO (SemE PG h15 (Instr.loadAt T_api_Packet v19)) fun v20 =>
 CallsH PG id_packet_Check #[v20] h15 fun v21 h22 =>
 R v21 h22)
def note_Check.ann : Ann := { b := fun i => match i with  | _ => #[], ord := fun i => match i with  | _ => [], keep := fun i => match i with  | _ => [], n := 14 }
theorem note_Check.eq (t0 : Value) (h0 : PH) (R : Value → PH → Prop) : codeF PG note_Check.ann 200 (bodyOf Try.f35) (endH PG Try.f35 R) (fun t => (#[t0] : Array Value).getD t undef) h0 = note_Check t0 h0 R := by kernel_rfl
theorem note_Check.call {t0 : Value} {h0 : PH} {R : Value → PH → Prop} (H : note_Check t0 h0 R) : CallsH PG id_note_Check #[t0] h0 R :=
  callsF_by note_Check.ann 200 mix Try.func35 (by kernel_rfl) (by kernel_rfl) (by kernel_rfl) (by kernel_rfl) (by simp [Try.ntmps35]) (note_Check.eq t0 h0 R) H

def packet_Check (t0 : Value) (h0 : PH) (R : Value → PH → Prop) : Prop :=
 ∀ r1, h0 r1 = none → bindH (PH.set h0 r1 (.cells (Value.cells t0) T_api_Packet)) fun h2 =>
 popO (SemP PG (Instr.fieldAt T_api_Packet (Value.pointer (some ⟨r1, 0, none⟩)) 0)) fun v3 =>
 popO (SemE PG h2 (Instr.loadAt T_int v3)) fun v4 =>
 popO (SemP PG (binOp BinOp.lss T_int v4 (Value.int IntKind.i64 0))) fun v5 =>
 gopV (yV v5) false (fun k8 => popO (SemP PG (Instr.fieldAt T_api_Packet (Value.pointer (some ⟨r1, 0, none⟩)) 0)) fun v9 => k8 v9 h2) h2 fun v6 h7 =>
 gopV (yV v5) false (fun k12 => popO (SemE PG h7 (Instr.loadAt T_int v6)) fun v13 => k12 v13 h7) h7 fun v10 h11 =>
 gopV (yV v5) false (fun k16 => popO (SemP PG (binOp BinOp.gtr T_int v10 (Value.int IntKind.i64 1))) fun v17 => k16 v17 h11) h11 fun v14 h15 =>
 popO (pickV v5 (Value.bool true) v14) fun v18 =>
 gopV (yV v18) false (fun k21 => popO (SemP PG (Instr.fieldAt T_api_Packet (Value.pointer (some ⟨r1, 0, none⟩)) 1)) fun v22 => k21 v22 h15) h15 fun v19 h20 =>
 gopV (yV v18) false (fun k25 => popO (SemE PG h20 (Instr.loadAt T_uint64 v19)) fun v26 => k25 v26 h20) h20 fun v23 h24 =>
 gopV (yV v18) false (fun k29 => popO (SemE PG h24 (binS BinOp.eql T_uint64 (.tmp 13) (.const (Value.int IntKind.u64 0)) v23 (Value.int IntKind.u64 0))) fun v30 => k29 v30 h24) h24 fun v27 h28 =>
 popO (pickV v18 (Value.bool true) v27) fun v31 =>
 gopV (yV v31) false (fun k34 => popO (SemP PG (Instr.fieldAt T_api_Packet (Value.pointer (some ⟨r1, 0, none⟩)) 2)) fun v35 => k34 v35 h28) h28 fun v32 h33 =>
 gopV (yV v31) false (fun k38 => popO (SemE PG h33 (Instr.loadAt T_uint64 v32)) fun v39 => k38 v39 h33) h33 fun v36 h37 =>
 gopV (yV v31) false (fun k42 => popO (SemE PG h37 (binS BinOp.eql T_uint64 (.tmp 18) (.const (Value.int IntKind.u64 0)) v36 (Value.int IntKind.u64 0))) fun v43 => k42 v43 h37) h37 fun v40 h41 =>
 popO (pickV v31 (Value.bool true) v40) fun v44 =>
 gopV (yV v44) false (fun k47 => popO (SemP PG (Instr.fieldAt T_api_Packet (Value.pointer (some ⟨r1, 0, none⟩)) 3)) fun v48 => k47 v48 h41) h41 fun v45 h46 =>
 gopV (yV v44) false (fun k51 => popO (SemE PG h46 (Instr.loadAt T_string v45)) fun v52 => k51 v52 h46) h46 fun v49 h50 =>
 gopV (yV v44) false (fun k55 => popO (SemP PG (Builtin.len_ #[T_string] T_int #[v49])) fun v56 => k55 v56 h50) h50 fun v53 h54 =>
 gopV (yV v44) false (fun k59 => popO (SemP PG (binOp BinOp.gtr T_int v53 (Value.int IntKind.i64 64))) fun v60 => k59 v60 h54) h54 fun v57 h58 =>
 popO (pickV v44 (Value.bool true) v57) fun v61 =>
 condV v61
 (R (Value.int IntKind.i64 1) h58)
 (R (Value.int IntKind.i64 0) h58)
def packet_Check.ann : Ann := { b := fun i => match i with  | _ => #[], ord := fun i => match i with  | _ => [], keep := fun i => match i with  | _ => [], n := 27 }
theorem packet_Check.eq (t0 : Value) (h0 : PH) (R : Value → PH → Prop) : codeF PG packet_Check.ann 200 (bodyOf Try.f39) (endH PG Try.f39 R) (fun t => (#[t0] : Array Value).getD t undef) h0 = packet_Check t0 h0 R := by kernel_rfl
theorem packet_Check.call {t0 : Value} {h0 : PH} {R : Value → PH → Prop} (H : packet_Check t0 h0 R) : CallsH PG id_packet_Check #[t0] h0 R :=
  callsF_by packet_Check.ann 200 mix Try.func39 (by kernel_rfl) (by kernel_rfl) (by kernel_rfl) (by kernel_rfl) (by simp [Try.ntmps39]) (packet_Check.eq t0 h0 R) H

def table_Table_sent (t0 : Value) (t1 : Value) (t2 : Value) (h0 : PH) (R : Value → PH → Prop) : Prop :=
 ∀ r1, h0 r1 = none → bindH (PH.set h0 r1 (.cells (Value.cells t1) T_table_id)) fun h2 =>
 ∀ r3, h2 r3 = none → bindH (PH.set h2 r3 (.cells (Value.cells t2) T_api_Packet)) fun h4 =>
 popO (SemP PG (nilS t0)) fun v5 =>
 popO (SemP PG (Instr.fieldAt T_table_Table v5 0)) fun v6 =>
 popO (SemE PG h4 (Instr.loadAt T_map_table_id_api_Item v6)) fun v7 =>
 popO (SemE PG h4 (Instr.loadAt T_table_id (Value.pointer (some ⟨r1, 0, none⟩)))) fun v8 =>
 popO (SemE PG h4 (Instr.lookup T_map_table_id_api_Item v7 v8 true)) fun v9 =>
 popO (SemP PG (Instr.extract v9 0)) fun v10 =>
 popO (SemP PG (Instr.extract v9 1)) fun v11 =>
 ∀ r12, h4 r12 = none → bindH (PH.set h4 r12 (.cells (zcells PG T_api_Item) T_api_Item)) fun h13 =>
 SemH PG (storeS T_api_Item (Value.pointer (some ⟨r12, 0, none⟩)) v10) h13 fun v14 h15 =>
 (condV v11
 (R (Value.int IntKind.i64 0) h15)
 (popO (SemE PG h15 (Instr.loadAt T_table_id (Value.pointer (some ⟨r1, 0, none⟩)))) fun v16 =>
 popO (SemE PG h15 (Instr.loadAt T_api_Packet (Value.pointer (some ⟨r3, 0, none⟩)))) fun v17 =>
 popO (SemP PG (Instr.build T_api_Item #[(0, v17), (1, (Value.int IntKind.i64 1))])) fun v18 =>
 CallsH PG id_table_Table_put #[t0, v16, v18] h15 fun v19 h20 =>
 R v19 h20))
def table_Table_sent.ann : Ann := { b := fun i => match i with | 1 => #[0, 1, 3, 7, 0, 31, 63, 127, 127, 0, 767, 2047] | _ => #[], ord := fun i => match i with | 1 => [0, 1, 2, 3, 4, 5, 6, 7, 8, 9, 10, 11] | _ => [], keep := fun i => match i with  | _ => [], n := 24 }
theorem table_Table_sent.eq (t0 : Value) (t1 : Value) (t2 : Value) (h0 : PH) (R : Value → PH → Prop) : codeF PG table_Table_sent.ann 200 (bodyOf Try.f36) (endH PG Try.f36 R) (fun t => (#[t0, t1, t2] : Array Value).getD t undef) h0 = table_Table_sent t0 t1 t2 h0 R := by kernel_rfl
theorem table_Table_sent.call {t0 : Value} {t1 : Value} {t2 : Value} {h0 : PH} {R : Value → PH → Prop} (H : table_Table_sent t0 t1 t2 h0 R) : CallsH PG id_table_Table_sent #[t0, t1, t2] h0 R :=
  callsF_by table_Table_sent.ann 200 mix Try.func36 (by kernel_rfl) (by kernel_rfl) (by kernel_rfl) (by kernel_rfl) (by simp [Try.ntmps36]) (table_Table_sent.eq t0 t1 t2 h0 R) H

def table_Table_put (t0 : Value) (t1 : Value) (t2 : Value) (h0 : PH) (R : Value → PH → Prop) : Prop :=
 ∀ r1, h0 r1 = none → bindH (PH.set h0 r1 (.cells (Value.cells t1) T_table_id)) fun h2 =>
 ∀ r3, h2 r3 = none → bindH (PH.set h2 r3 (.cells (Value.cells t2) T_api_Item)) fun h4 =>
 popO (SemP PG (nilS t0)) fun v5 =>
 popO (SemP PG (Instr.fieldAt T_table_Table v5 0)) fun v6 =>
 popO (SemE PG h4 (Instr.loadAt T_map_table_id_api_Item v6)) fun v7 =>
 popO (SemE PG h4 (Instr.loadAt T_table_id (Value.pointer (some ⟨r1, 0, none⟩)))) fun v8 =>
 popO (SemE PG h4 (Instr.lookup T_map_table_id_api_Item v7 v8 true)) fun v9 =>
 popO (SemP PG (Instr.extract v9 0)) fun v10 =>
 popO (SemP PG (Instr.extract v9 1)) fun v11 =>
 ∀ r12, h4 r12 = none → bindH (PH.set h4 r12 (.cells (zcells PG T_api_Item) T_api_Item)) fun h13 =>
 SemH PG (storeS T_api_Item (Value.pointer (some ⟨r12, 0, none⟩)) v10) h13 fun v14 h15 =>
 (popO (SemP PG (Op.unary UnOp.not v11)) fun v16 =>
 gopV (yV v16) true (fun k19 => k19 t0 h15) h15 fun v17 h18 =>
 gopV (yV v16) true (fun k22 => popO (SemP PG (nilS v17)) fun v23 => k22 v23 h18) h18 fun v20 h21 =>
 gopV (yV v16) true (fun k26 => popO (SemP PG (Instr.fieldAt T_table_Table v20 0)) fun v27 => k26 v27 h21) h21 fun v24 h25 =>
 gopV (yV v16) true (fun k30 => popO (SemE PG h25 (Instr.loadAt T_map_table_id_api_Item v24)) fun v31 => k30 v31 h25) h25 fun v28 h29 =>
 gopV (yV v16) true (fun k34 => popO (SemE PG h29 (Builtin.len_ #[T_map_table_id_api_Item] T_int #[v28])) fun v35 => k34 v35 h29) h29 fun v32 h33 =>
 gopV (yV v16) true (fun k38 => k38 t0 h33) h33 fun v36 h37 =>
 gopV (yV v16) true (fun k41 => popO (SemP PG (nilS v36)) fun v42 => k41 v42 h37) h37 fun v39 h40 =>
 gopV (yV v16) true (fun k45 => popO (SemP PG (Instr.fieldAt T_table_Table v39 1)) fun v46 => k45 v46 h40) h40 fun v43 h44 =>
 gopV (yV v16) true (fun k49 => popO (SemE PG h44 (Instr.loadAt T_int v43)) fun v50 => k49 v50 h44) h44 fun v47 h48 =>
 gopV (yV v16) true (fun k53 => popO (SemP PG (binOp BinOp.geq T_int v32 v47)) fun v54 => k53 v54 h48) h48 fun v51 h52 =>
 popO (pickV v16 v51 (Value.bool false)) fun v55 =>
 condV v55
 (R (Value.int IntKind.i64 2) h52)
 (popO (SemP PG (nilS t0)) fun v56 =>
 popO (SemP PG (Instr.fieldAt T_table_Table v56 0)) fun v57 =>
 popO (SemE PG h52 (Instr.loadAt T_map_table_id_api_Item v57)) fun v58 =>
 popO (SemE PG h52 (Instr.loadAt T_table_id (Value.pointer (some ⟨r1, 0, none⟩)))) fun v59 =>
 popO (SemE PG h52 (Instr.loadAt T_api_Item (Value.pointer (some ⟨r3, 0, none⟩)))) fun v60 =>
 SemH PG (mapUpdS T_map_table_id_api_Item v58 v59 v60) h52 fun v61 h62 =>
 (R (Value.int IntKind.i64 0) h62)))
def table_Table_put.ann : Ann := { b := fun i => match i with | 1 => #[0, 1, 3, 7, 0, 31, 63, 127, 127, 0, 767, 2047] | 2 => #[0, 1, 3, 7, 15, 31, 63, 127, 7, 263, 775, 1799, 4095, 8191] | 4 => #[0, 1, 3, 7, 0, 0, 63] | _ => #[], ord := fun i => match i with | 1 => [0, 1, 2, 3, 4, 5, 6, 7, 8, 9, 10, 11] | 2 => [0, 1, 2, 3, 4, 5, 6, 7, 8, 9, 10, 11, 12, 13] | 4 => [0, 1, 2, 3, 4, 5, 6] | _ => [], keep := fun i => match i with  | _ => [], n := 38 }
theorem table_Table_put.eq (t0 : Value) (t1 : Value) (t2 : Value) (h0 : PH) (R : Value → PH → Prop) : codeF PG table_Table_put.ann 200 (bodyOf Try.f53) (endH PG Try.f53 R) (fun t => (#[t0, t1, t2] : Array Value).getD t undef) h0 = table_Table_put t0 t1 t2 h0 R := by kernel_rfl
theorem table_Table_put.call {t0 : Value} {t1 : Value} {t2 : Value} {h0 : PH} {R : Value → PH → Prop} (H : table_Table_put t0 t1 t2 h0 R) : CallsH PG id_table_Table_put #[t0, t1, t2] h0 R :=
  callsF_by table_Table_put.ann 200 mix Try.func53 (by kernel_rfl) (by kernel_rfl) (by kernel_rfl) (by kernel_rfl) (by simp [Try.ntmps53]) (table_Table_put.eq t0 t1 t2 h0 R) H

def table_Table_received_k20 (R : Value → PH → Prop) (t0 : Value) (t4 : Value) (t5 : Value) (h0 : PH) : Prop :=
 popO (SemE PG h0 (Instr.loadAt T_table_id t4)) fun v21 =>
 popO (SemE PG h0 (Instr.loadAt T_api_Packet t5)) fun v22 =>
 popO (SemP PG (Instr.build T_api_Item #[(0, v22), (1, (Value.int IntKind.i64 2))])) fun v23 =>
 CallsH PG id_table_Table_put #[t0, v21, v23] h0 fun v24 h25 =>
 R v24 h25
def table_Table_received (t0 : Value) (t1 : Value) (t2 : Value) (h0 : PH) (R : Value → PH → Prop) : Prop :=
 ∀ r1, h0 r1 = none → bindH (PH.set h0 r1 (.cells (Value.cells t1) T_table_id)) fun h2 =>
 ∀ r3, h2 r3 = none → bindH (PH.set h2 r3 (.cells (Value.cells t2) T_api_Packet)) fun h4 =>
 popO (SemP PG (nilS t0)) fun v5 =>
 popO (SemP PG (Instr.fieldAt T_table_Table v5 0)) fun v6 =>
 popO (SemE PG h4 (Instr.loadAt T_map_table_id_api_Item v6)) fun v7 =>
 popO (SemE PG h4 (Instr.loadAt T_table_id (Value.pointer (some ⟨r1, 0, none⟩)))) fun v8 =>
 popO (SemE PG h4 (Instr.lookup T_map_table_id_api_Item v7 v8 true)) fun v9 =>
 popO (SemP PG (Instr.extract v9 0)) fun v10 =>
 popO (SemP PG (Instr.extract v9 1)) fun v11 =>
 ∀ r12, h4 r12 = none → bindH (PH.set h4 r12 (.cells (zcells PG T_api_Item) T_api_Item)) fun h13 =>
 SemH PG (storeS T_api_Item (Value.pointer (some ⟨r12, 0, none⟩)) v10) h13 fun v14 h15 =>
 (condV v11
 (popO (SemP PG (Instr.fieldAt T_api_Item (Value.pointer (some ⟨r12, 0, none⟩)) 0)) fun v16 =>
 popO (SemE PG h15 (Instr.loadAt T_api_Packet v16)) fun v17 =>
 SemH PG (storeS T_api_Packet (Value.pointer (some ⟨r3, 0, none⟩)) v17) h15 fun v18 h19 =>
 table_Table_received_k20 R t0 (Value.pointer (some ⟨r1, 0, none⟩)) (Value.pointer (some ⟨r3, 0, none⟩)) h19)
 (table_Table_received_k20 R t0 (Value.pointer (some ⟨r1, 0, none⟩)) (Value.pointer (some ⟨r3, 0, none⟩)) h15))
def table_Table_received.ann : Ann := { b := fun i => match i with | 1 => #[0, 1, 3, 7, 0, 31, 63, 127, 127, 0, 767, 2047] | _ => #[], ord := fun i => match i with | 1 => [0, 1, 2, 3, 4, 5, 6, 7, 8, 9, 10, 11] | _ => [], keep := fun i => match i with  | _ => [], n := 26 }
theorem table_Table_received.eq (t0 : Value) (t1 : Value) (t2 : Value) (h0 : PH) (R : Value → PH → Prop) : codeF PG table_Table_received.ann 200 (bodyOf Try.f37) (endH PG Try.f37 R) (fun t => (#[t0, t1, t2] : Array Value).getD t undef) h0 = table_Table_received t0 t1 t2 h0 R := by kernel_rfl
theorem table_Table_received.call {t0 : Value} {t1 : Value} {t2 : Value} {h0 : PH} {R : Value → PH → Prop} (H : table_Table_received t0 t1 t2 h0 R) : CallsH PG id_table_Table_received #[t0, t1, t2] h0 R :=
  callsF_by table_Table_received.ann 200 mix Try.func37 (by kernel_rfl) (by kernel_rfl) (by kernel_rfl) (by kernel_rfl) (by simp [Try.ntmps37]) (table_Table_received.eq t0 t1 t2 h0 R) H

def table_Table_over (t0 : Value) (t1 : Value) (t2 : Value) (h0 : PH) (R : Value → PH → Prop) : Prop :=
 ∀ r1, h0 r1 = none → bindH (PH.set h0 r1 (.cells (Value.cells t1) T_table_id)) fun h2 =>
 ∀ r3, h2 r3 = none → bindH (PH.set h2 r3 (.cells (Value.cells t2) T_api_Packet)) fun h4 =>
 popO (SemP PG (nilS t0)) fun v5 =>
 popO (SemP PG (Instr.fieldAt T_table_Table v5 0)) fun v6 =>
 popO (SemE PG h4 (Instr.loadAt T_map_table_id_api_Item v6)) fun v7 =>
 popO (SemE PG h4 (Instr.loadAt T_table_id (Value.pointer (some ⟨r1, 0, none⟩)))) fun v8 =>
 SemH PG (Builtin.delete_ #[T_map_table_id_api_Item, T_table_id] T_ #[v7, v8]) h4 fun v9 h10 =>
 (R (Value.int IntKind.i64 0) h10)
def table_Table_over.ann : Ann := { b := fun i => match i with | 1 => #[0, 1, 3, 7, 0, 31] | _ => #[], ord := fun i => match i with | 1 => [0, 1, 2, 3, 4, 5] | _ => [], keep := fun i => match i with  | _ => [], n := 12 }
theorem table_Table_over.eq (t0 : Value) (t1 : Value) (t2 : Value) (h0 : PH) (R : Value → PH → Prop) : codeF PG table_Table_over.ann 200 (bodyOf Try.f38) (endH PG Try.f38 R) (fun t => (#[t0, t1, t2] : Array Value).getD t undef) h0 = table_Table_over t0 t1 t2 h0 R := by kernel_rfl
theorem table_Table_over.call {t0 : Value} {t1 : Value} {t2 : Value} {h0 : PH} {R : Value → PH → Prop} (H : table_Table_over t0 t1 t2 h0 R) : CallsH PG id_table_Table_over #[t0, t1, t2] h0 R :=
  callsF_by table_Table_over.ann 200 mix Try.func38 (by kernel_rfl) (by kernel_rfl) (by kernel_rfl) (by kernel_rfl) (by simp [Try.ntmps38]) (table_Table_over.eq t0 t1 t2 h0 R) H

def table_Table_Len (t0 : Value) (h0 : PH) (R : Value → PH → Prop) : Prop :=
 popO (SemP PG (nilS t0)) fun v1 =>
 popO (SemP PG (Instr.fieldAt T_table_Table v1 0)) fun v2 =>
 popO (SemE PG h0 (Instr.loadAt T_map_table_id_api_Item v2)) fun v3 =>
 popO (SemE PG h0 (Builtin.len_ #[T_map_table_id_api_Item] T_int #[v3])) fun v4 =>
 R v4 h0
def table_Table_Len.ann : Ann := { b := fun i => match i with  | _ => #[], ord := fun i => match i with  | _ => [], keep := fun i => match i with  | _ => [], n := 8 }
theorem table_Table_Len.eq (t0 : Value) (h0 : PH) (R : Value → PH → Prop) : codeF PG table_Table_Len.ann 200 (bodyOf Try.f17) (endH PG Try.f17 R) (fun t => (#[t0] : Array Value).getD t undef) h0 = table_Table_Len t0 h0 R := by kernel_rfl
theorem table_Table_Len.call {t0 : Value} {h0 : PH} {R : Value → PH → Prop} (H : table_Table_Len t0 h0 R) : CallsH PG id_table_Table_Len #[t0] h0 R :=
  callsF_by table_Table_Len.ann 200 mix Try.func17 (by kernel_rfl) (by kernel_rfl) (by kernel_rfl) (by kernel_rfl) (by simp [Try.ntmps17]) (table_Table_Len.eq t0 h0 R) H

def carracklaw15_one (t0 : Value) (t1 : Value) (h0 : PH) (R : Value → PH → Prop) : Prop :=
 ∀ r1, h0 r1 = none → bindH (PH.set h0 r1 (.cells (zcells PG T_api_Note) T_api_Note)) fun h2 =>
 popO (SemP PG (Instr.build T_api_Packet #[(1, t1), (2, (Value.int IntKind.u64 1))])) fun v3 =>
 popO (SemP PG (Instr.build T_api_Note #[(0, t0), (1, v3)])) fun v4 =>
 SemH PG (storeS T_api_Note (Value.pointer (some ⟨r1, 0, none⟩)) v4) h2 fun v5 h6 =>
 popO (SemE PG h6 (Instr.loadAt T_api_Note (Value.pointer (some ⟨r1, 0, none⟩)))) fun v7 =>
 R v7 h6
def carracklaw15_one.ann : Ann := { b := fun i => match i with  | _ => #[], ord := fun i => match i with  | _ => [], keep := fun i => match i with  | _ => [], n := 9 }
theorem carracklaw15_one.eq (t0 : Value) (t1 : Value) (h0 : PH) (R : Value → PH → Prop) : codeF PG carracklaw15_one.ann 200 (bodyOf Try.f27) (endH PG Try.f27 R) (fun t => (#[t0, t1] : Array Value).getD t undef) h0 = carracklaw15_one t0 t1 h0 R := by kernel_rfl
theorem carracklaw15_one.call {t0 : Value} {t1 : Value} {h0 : PH} {R : Value → PH → Prop} (H : carracklaw15_one t0 t1 h0 R) : CallsH PG id_carracklaw15_one #[t0, t1] h0 R :=
  callsF_by carracklaw15_one.ann 200 mix Try.func27 (by kernel_rfl) (by kernel_rfl) (by kernel_rfl) (by kernel_rfl) (by simp [Try.ntmps27]) (carracklaw15_one.eq t0 t1 h0 R) H

def carracklaw15_few_b4 (R : Value → PH → Prop) (n3 : List Value → PH → Prop) (t0 : Value) (t3 : Value) (h0 : PH) : Prop :=
 popO (SemP PG (Builtin.len_ #[T_sl_api_Note] T_int #[t0])) fun v5 =>
 popO (SemP PG (binOp BinOp.lss T_int t3 v5)) fun v6 =>
 condV v6
 (popO (SemP PG (Instr.indexAt T_sl_api_Note t0 t3)) fun v7 =>
 popO (SemP PG (Instr.fieldAt T_api_Note v7 1)) fun v8 =>
 popO (SemP PG (Instr.fieldAt T_api_Packet v8 3)) fun v9 =>
 popO (SemE PG h0 (Instr.loadAt T_string v9)) fun v10 =>
 popO (SemP PG (Builtin.len_ #[T_string] T_int #[v10])) fun v11 =>
 popO (SemP PG (binOp BinOp.gtr T_int v11 (Value.int IntKind.i64 300))) fun v12 =>
 condV v12
 (R (Value.bool false) h0)
 (popO (SemP PG (binOp BinOp.add T_int t3 (Value.int IntKind.i64 1))) fun v13 =>
 n3 [t0, v13] h0))
 (R (Value.bool true) h0)
def carracklaw15_few (t0 : Value) (h0 : PH) (R : Value → PH → Prop) : Prop :=
 popO (SemP PG (Builtin.len_ #[T_sl_api_Note] T_int #[t0])) fun v1 =>
 popO (SemP PG (binOp BinOp.gtr T_int v1 (Value.int IntKind.i64 100))) fun v2 =>
 condV v2
 (R (Value.bool false) h0)
 (LoopL [0, 3] (fun n3 ρ h => carracklaw15_few_b4 R n3 (ρ 0) (ρ 3) h) [t0, (Value.int IntKind.i64 0)] h0)
def carracklaw15_few.ann : Ann := { b := fun i => match i with  | _ => #[], ord := fun i => match i with  | _ => [], keep := fun i => match i with | 4 => [0, 3] | _ => [], n := 21 }
theorem carracklaw15_few.eq (t0 : Value) (h0 : PH) (R : Value → PH → Prop) : codeF PG carracklaw15_few.ann 200 (bodyOf Try.f9) (endH PG Try.f9 R) (fun t => (#[t0] : Array Value).getD t undef) h0 = carracklaw15_few t0 h0 R := by kernel_rfl
theorem carracklaw15_few.call {t0 : Value} {h0 : PH} {R : Value → PH → Prop} (H : carracklaw15_few t0 h0 R) : CallsH PG id_carracklaw15_few #[t0] h0 R :=
  callsF_by carracklaw15_few.ann 200 mix Try.func9 (by kernel_rfl) (by kernel_rfl) (by kernel_rfl) (by kernel_rfl) (by simp [Try.ntmps9]) (carracklaw15_few.eq t0 h0 R) H

def carracklaw15_notes_b2 (R : Value → PH → Prop) (n1 : List Value → PH → Prop) (t0 : Value) (t3 : Value) (t4 : Value) (h0 : PH) : Prop :=
 popO (SemP PG (Builtin.len_ #[T_sl_carrackref15_Act] T_int #[t0])) fun v3 =>
 popO (SemP PG (binOp BinOp.lss T_int t4 v3)) fun v4 =>
 condV v4
 (popO (SemP PG (Instr.indexAt T_sl_carrackref15_Act t0 t4)) fun v5 =>
 popO (SemP PG (Instr.fieldAt T_carrackref15_Act v5 1)) fun v6 =>
 popO (SemE PG h0 (Instr.loadAt T_api_Note v6)) fun v7 =>
 popO (SemA PG (Instr.buildSlice T_sl_api_Note 1 #[(0, v7)])) fun x9 => ∀ r8, h0 r8 = none → popO (SemP PG (x9.2 r8)) fun v10 => bindH (PH.set h0 r8 x9.1) fun h11 =>
 SemH PG (Builtin.append_ #[T_sl_api_Note, T_sl_api_Note] T_sl_api_Note #[t3, v10]) h11 fun v12 h13 =>
 popO (SemP PG (binOp BinOp.add T_int t4 (Value.int IntKind.i64 1))) fun v14 =>
 n1 [t0, v12, v14] h13)
 (R t3 h0)
def carracklaw15_notes (t0 : Value) (h0 : PH) (R : Value → PH → Prop) : Prop :=
 LoopL [0, 3, 4] (fun n1 ρ h => carracklaw15_notes_b2 R n1 (ρ 0) (ρ 3) (ρ 4) h) [t0, (Value.slice none 0 0), (Value.int IntKind.i64 0)] h0
def carracklaw15_notes.ann : Ann := { b := fun i => match i with  | _ => #[], ord := fun i => match i with  | _ => [], keep := fun i => match i with | 3 => [0, 3, 4] | _ => [], n := 20 }
theorem carracklaw15_notes.eq (t0 : Value) (h0 : PH) (R : Value → PH → Prop) : codeF PG carracklaw15_notes.ann 200 (bodyOf Try.f10) (endH PG Try.f10 R) (fun t => (#[t0] : Array Value).getD t undef) h0 = carracklaw15_notes t0 h0 R := by kernel_rfl
theorem carracklaw15_notes.call {t0 : Value} {h0 : PH} {R : Value → PH → Prop} (H : carracklaw15_notes t0 h0 R) : CallsH PG id_carracklaw15_notes #[t0] h0 R :=
  callsF_by carracklaw15_notes.ann 200 mix Try.func10 (by kernel_rfl) (by kernel_rfl) (by kernel_rfl) (by kernel_rfl) (by simp [Try.ntmps10]) (carracklaw15_notes.eq t0 h0 R) H

def carracklaw15_do (t0 : Value) (t1 : Value) (h0 : PH) (R : Value → PH → Prop) : Prop :=
 ∀ r1, h0 r1 = none → bindH (PH.set h0 r1 (.cells (Value.cells t1) T_carrackref15_Act)) fun h2 =>
 popO (SemP PG (Instr.fieldAt T_carrackref15_Act (Value.pointer (some ⟨r1, 0, none⟩)) 0)) fun v3 =>
 popO (SemE PG h2 (Instr.loadAt T_bool v3)) fun v4 =>
 condV v4
 (popO (SemP PG (Instr.fieldAt T_carrackref15_Act (Value.pointer (some ⟨r1, 0, none⟩)) 1)) fun v5 =>
 popO (SemP PG (Instr.fieldAt T_api_Note v5 1)) fun v6 =>
 popO (SemP PG (Instr.fieldAt T_api_Packet v6 0)) fun v7 =>
 popO (SemE PG h2 (Instr.loadAt T_int v7)) fun v8 =>
 popO (SemP PG (Instr.fieldAt T_carrackref15_Act (Value.pointer (some ⟨r1, 0, none⟩)) 1)) fun v9 =>
 popO (SemP PG (Instr.fieldAt T_api_Note v9 1)) fun v10 =>
 popO (SemP PG (Instr.fieldAt T_api_Packet v10 1)) fun v11 =>
 popO (SemE PG h2 (Instr.loadAt T_uint64 v11)) fun v12 =>
 CallsH PG id_table_Table_Drop #[t0, v8, v12] h2 fun v13 h14 =>
 R v13 h14)
 (popO (SemP PG (Instr.fieldAt T_carrackref15_Act (Value.pointer (some ⟨r1, 0, none⟩)) 1)) fun v15 =>
 popO (SemE PG h2 (Instr.loadAt T_api_Note v15)) fun v16 =>
 CallsH PG id_table_Table_Apply #[t0, v16] h2 fun v17 h18 =>
 R v17 h18)
def carracklaw15_do.ann : Ann := { b := fun i => match i with  | _ => #[], ord := fun i => match i with  | _ => [], keep := fun i => match i with  | _ => [], n := 21 }
theorem carracklaw15_do.eq (t0 : Value) (t1 : Value) (h0 : PH) (R : Value → PH → Prop) : codeF PG carracklaw15_do.ann 200 (bodyOf Try.f12) (endH PG Try.f12 R) (fun t => (#[t0, t1] : Array Value).getD t undef) h0 = carracklaw15_do t0 t1 h0 R := by kernel_rfl
theorem carracklaw15_do.call {t0 : Value} {t1 : Value} {h0 : PH} {R : Value → PH → Prop} (H : carracklaw15_do t0 t1 h0 R) : CallsH PG id_carracklaw15_do #[t0, t1] h0 R :=
  callsF_by carracklaw15_do.ann 200 mix Try.func12 (by kernel_rfl) (by kernel_rfl) (by kernel_rfl) (by kernel_rfl) (by simp [Try.ntmps12]) (carracklaw15_do.eq t0 t1 h0 R) H

def table_Table_Drop (t0 : Value) (t1 : Value) (t2 : Value) (h0 : PH) (R : Value → PH → Prop) : Prop :=
 popO (SemP PG (Instr.build T_table_id #[(0, t1), (1, t2)])) fun v1 =>
 ∀ r2, h0 r2 = none → bindH (PH.set h0 r2 (.cells (zcells PG T_table_id) T_table_id)) fun h3 =>
 SemH PG (storeS T_table_id (Value.pointer (some ⟨r2, 0, none⟩)) v1) h3 fun v4 h5 =>
 popO (SemP PG (nilS t0)) fun v6 =>
 popO (SemP PG (Instr.fieldAt T_table_Table v6 0)) fun v7 =>
 popO (SemE PG h5 (Instr.loadAt T_map_table_id_api_Item v7)) fun v8 =>
 popO (SemE PG h5 (Instr.loadAt T_table_id (Value.pointer (some ⟨r2, 0, none⟩)))) fun v9 =>
 popO (SemE PG h5 (Instr.lookup T_map_table_id_api_Item v8 v9 true)) fun v10 =>
 popO (SemP PG (Instr.extract v10 0)) fun v11 =>
 popO (SemP PG (Instr.extract v10 1)) fun v12 =>
 ∀ r13, h5 r13 = none → bindH (PH.set h5 r13 (.cells (zcells PG T_api_Item) T_api_Item)) fun h14 =>
 SemH PG (storeS T_api_Item (Value.pointer (some ⟨r13, 0, none⟩)) v11) h14 fun v15 h16 =>
 (popO (SemP PG (Op.unary UnOp.not v12)) fun v17 =>
 condV v17
 (R (Value.int IntKind.i64 3) h16)
 (popO (SemP PG (nilS t0)) fun v18 =>
 popO (SemP PG (Instr.fieldAt T_table_Table v18 0)) fun v19 =>
 popO (SemE PG h16 (Instr.loadAt T_map_table_id_api_Item v19)) fun v20 =>
 popO (SemE PG h16 (Instr.loadAt T_table_id (Value.pointer (some ⟨r2, 0, none⟩)))) fun v21 =>
 SemH PG (Builtin.delete_ #[T_map_table_id_api_Item, T_table_id] T_ #[v20, v21]) h16 fun v22 h23 =>
 (R (Value.int IntKind.i64 0) h23)))
def table_Table_Drop.ann : Ann := { b := fun i => match i with | 2 => #[0, 1, 3, 7, 0, 31, 63, 127, 127, 0, 767, 2047] | 5 => #[0, 1, 3, 7, 0, 31] | _ => #[], ord := fun i => match i with | 2 => [0, 1, 2, 3, 4, 5, 6, 7, 8, 9, 10, 11] | 5 => [0, 1, 2, 3, 4, 5] | _ => [], keep := fun i => match i with  | _ => [], n := 29 }
theorem table_Table_Drop.eq (t0 : Value) (t1 : Value) (t2 : Value) (h0 : PH) (R : Value → PH → Prop) : codeF PG table_Table_Drop.ann 200 (bodyOf Try.f13) (endH PG Try.f13 R) (fun t => (#[t0, t1, t2] : Array Value).getD t undef) h0 = table_Table_Drop t0 t1 t2 h0 R := by kernel_rfl
theorem table_Table_Drop.call {t0 : Value} {t1 : Value} {t2 : Value} {h0 : PH} {R : Value → PH → Prop} (H : table_Table_Drop t0 t1 t2 h0 R) : CallsH PG id_table_Table_Drop #[t0, t1, t2] h0 R :=
  callsF_by table_Table_Drop.ann 200 mix Try.func13 (by kernel_rfl) (by kernel_rfl) (by kernel_rfl) (by kernel_rfl) (by simp [Try.ntmps13]) (table_Table_Drop.eq t0 t1 t2 h0 R) H

def table_Table_Items (t0 : Value) (h0 : PH) (R : Value → PH → Prop) : Prop :=
 popO (SemP PG (nilS t0)) fun v1 =>
 popO (SemP PG (Instr.fieldAt T_table_Table v1 0)) fun v2 =>
 popO (SemE PG h0 (Instr.loadAt T_map_table_id_api_Item v2)) fun v3 =>
 CallsH PG id_maps_Values_map_table_id_api_Item_table_id_api_Item #[v3] h0 fun v4 h5 =>
 CallsH PG id_slices_Collect_api_Item #[v4] h5 fun v6 h7 =>
 CallsH PG id_slices_SortFunc_sl_api_Item_api_Item #[v6, (Value.func (Fn.func id_table_Table_Items_1) #[] #[])] h7 fun v8 h9 =>
 popO (SemP PG (Builtin.len_ #[T_sl_api_Item] T_int #[v6])) fun v10 =>
 popO (SemA PG (Instr.makeSlice T_sl_api_Item v10 v10)) fun x12 => ∀ r11, h9 r11 = none → popO (SemP PG (x12.2 r11)) fun v13 => bindH (PH.set h9 r11 x12.1) fun h14 =>
 SemH PG (Builtin.copy_ #[T_sl_api_Item, T_sl_api_Item] T_int #[v13, v6]) h14 fun v15 h16 =>
 R v13 h16
def table_Table_Items.ann : Ann := { b := fun i => match i with  | _ => #[], ord := fun i => match i with  | _ => [], keep := fun i => match i with  | _ => [], n := 20 }
theorem table_Table_Items.eq (t0 : Value) (h0 : PH) (R : Value → PH → Prop) : codeF PG table_Table_Items.ann 200 (bodyOf Try.f14) (endH PG Try.f14 R) (fun t => (#[t0] : Array Value).getD t undef) h0 = table_Table_Items t0 h0 R := by kernel_rfl
theorem table_Table_Items.call {t0 : Value} {h0 : PH} {R : Value → PH → Prop} (H : table_Table_Items t0 h0 R) : CallsH PG id_table_Table_Items #[t0] h0 R :=
  callsF_by table_Table_Items.ann 200 mix Try.func14 (by kernel_rfl) (by kernel_rfl) (by kernel_rfl) (by kernel_rfl) (by simp [Try.ntmps14]) (table_Table_Items.eq t0 h0 R) H

def slices_Collect_api_Item (t0 : Value) (h0 : PH) (R : Value → PH → Prop) : Prop :=
 CallsH PG id_slices_AppendSeq_sl_api_Item_api_Item #[(Value.slice none 0 0), t0] h0 fun v1 h2 =>
 R v1 h2
def slices_Collect_api_Item.ann : Ann := { b := fun i => match i with  | _ => #[], ord := fun i => match i with  | _ => [], keep := fun i => match i with  | _ => [], n := 5 }
theorem slices_Collect_api_Item.eq (t0 : Value) (h0 : PH) (R : Value → PH → Prop) : codeF PG slices_Collect_api_Item.ann 200 (bodyOf Try.f28) (endH PG Try.f28 R) (fun t => (#[t0] : Array Value).getD t undef) h0 = slices_Collect_api_Item t0 h0 R := by kernel_rfl
theorem slices_Collect_api_Item.call {t0 : Value} {h0 : PH} {R : Value → PH → Prop} (H : slices_Collect_api_Item t0 h0 R) : CallsH PG id_slices_Collect_api_Item #[t0] h0 R :=
  callsF_by slices_Collect_api_Item.ann 200 mix Try.func28 (by kernel_rfl) (by kernel_rfl) (by kernel_rfl) (by kernel_rfl) (by simp [Try.ntmps28]) (slices_Collect_api_Item.eq t0 h0 R) H

noncomputable def slices_AppendSeq_sl_api_Item_api_Item_asg0 : Code := ((rangesOf (bodyOf Try.f47)).getD 0 (.skip, .skip)).1
noncomputable def slices_AppendSeq_sl_api_Item_api_Item_body0 : Code := ((rangesOf (bodyOf Try.f47)).getD 0 (.skip, .skip)).2
def slices_AppendSeq_sl_api_Item_api_Item_r0 (kv : Value → PH → Prop) (l : Nat) (t2 : Value) (t7 : Value) (h0 : PH) : Prop :=
 ∀ r3, h0 r3 = none → bindH (PH.set h0 r3 (.cells (zcells PG T_api_Item) T_api_Item)) fun h4 =>
 SemH PG (storeS T_api_Item (Value.pointer (some ⟨r3, 0, none⟩)) t7) h4 fun v5 h6 =>
 SemH PG (Instr.beginRound l) h6 fun _ h7 =>
 popO (SemE PG h7 (Instr.loadAt T_sl_api_Item t2)) fun v8 =>
 popO (SemE PG h7 (Instr.loadAt T_api_Item (Value.pointer (some ⟨r3, 0, none⟩)))) fun v9 =>
 popO (SemA PG (Instr.buildSlice T_sl_api_Item 1 #[(0, v9)])) fun x11 => ∀ r10, h7 r10 = none → popO (SemP PG (x11.2 r10)) fun v12 => bindH (PH.set h7 r10 x11.1) fun h13 =>
 SemH PG (Builtin.append_ #[T_sl_api_Item, T_sl_api_Item] T_sl_api_Item #[v8, v12]) h13 fun v14 h15 =>
 SemH PG (storeS T_sl_api_Item t2 v14) h15 fun v16 h17 =>
 SemH PG (Instr.endRound l none) h17 kv
def slices_AppendSeq_sl_api_Item_api_Item (t0 : Value) (t1 : Value) (h0 : PH) (R : Value → PH → Prop) : Prop :=
 ∀ r1, h0 r1 = none → bindH (PH.set h0 r1 (.cells (Value.cells t0) T_sl_api_Item)) fun h2 =>
 rangeH PG 13 t1 #[7] slices_AppendSeq_sl_api_Item_api_Item_asg0 slices_AppendSeq_sl_api_Item_api_Item_body0 (fun h18 => popO (SemE PG h18 (Instr.loadAt T_sl_api_Item (Value.pointer (some ⟨r1, 0, none⟩)))) fun v19 =>
 R v19 h18) (fun h20 => R (Value.slice none 0 0) h20) [] [(2, (Value.pointer (some ⟨r1, 0, none⟩)))] h2
def slices_AppendSeq_sl_api_Item_api_Item.ann : Ann := { b := fun i => match i with  | _ => #[], ord := fun i => match i with  | _ => [], keep := fun i => match i with | 3 => [2] | _ => [], n := 13 }
theorem slices_AppendSeq_sl_api_Item_api_Item.eq (t0 : Value) (t1 : Value) (h0 : PH) (R : Value → PH → Prop) : codeF PG slices_AppendSeq_sl_api_Item_api_Item.ann 200 (bodyOf Try.f47) (endH PG Try.f47 R) (fun t => (#[t0, t1] : Array Value).getD t undef) h0 = slices_AppendSeq_sl_api_Item_api_Item t0 t1 h0 R := by kernel_rfl
theorem slices_AppendSeq_sl_api_Item_api_Item.call {t0 : Value} {t1 : Value} {h0 : PH} {R : Value → PH → Prop} (H : slices_AppendSeq_sl_api_Item_api_Item t0 t1 h0 R) : CallsH PG id_slices_AppendSeq_sl_api_Item_api_Item #[t0, t1] h0 R :=
  callsF_by slices_AppendSeq_sl_api_Item_api_Item.ann 200 mix Try.func47 (by kernel_rfl) (by kernel_rfl) (by kernel_rfl) (by kernel_rfl) (by simp [Try.ntmps47]) (slices_AppendSeq_sl_api_Item_api_Item.eq t0 t1 h0 R) H
theorem slices_AppendSeq_sl_api_Item_api_Item_r0.eq (kv : Value → PH → Prop) (l : Nat) (ρ : Env) (h0 : PH) : roundF PG slices_AppendSeq_sl_api_Item_api_Item.ann 200 l slices_AppendSeq_sl_api_Item_api_Item_asg0 slices_AppendSeq_sl_api_Item_api_Item_body0 kv ρ h0 = slices_AppendSeq_sl_api_Item_api_Item_r0 kv l (ρ 2) (ρ 7) h0 := by kernel_rfl
theorem slices_AppendSeq_sl_api_Item_api_Item_r0.next {kv : Value → PH → Prop} {l : Nat} {f : FuncId} {tmps : Array Value} {h0 : PH} (hs : tmps.size = 13) (H : slices_AppendSeq_sl_api_Item_api_Item_r0 kv l (tmps.getD 2 undef) (tmps.getD 7 undef) h0) : NextH PG (.round l f tmps slices_AppendSeq_sl_api_Item_api_Item_asg0 slices_AppendSeq_sl_api_Item_api_Item_body0) h0 kv :=
  roundF_by slices_AppendSeq_sl_api_Item_api_Item.ann 200 mix hs (by kernel_rfl) (by kernel_rfl) (slices_AppendSeq_sl_api_Item_api_Item_r0.eq kv l (fun t => tmps.getD t undef) h0) H

def maps_Values_map_table_id_api_Item_table_id_api_Item (t0 : Value) (h0 : PH) (R : Value → PH → Prop) : Prop :=
 ∀ r1, h0 r1 = none → bindH (PH.set h0 r1 (.cells (Value.cells t0) T_map_table_id_api_Item)) fun h2 =>
 popO (SemP PG (Instr.makeFunc (Fn.func id_maps_Values_map_table_id_api_Item_table_id_api_Item_1) #[] #[(Value.pointer (some ⟨r1, 0, none⟩))])) fun v3 =>
 R v3 h2
def maps_Values_map_table_id_api_Item_table_id_api_Item.ann : Ann := { b := fun i => match i with  | _ => #[], ord := fun i => match i with  | _ => [], keep := fun i => match i with  | _ => [], n := 4 }
theorem maps_Values_map_table_id_api_Item_table_id_api_Item.eq (t0 : Value) (h0 : PH) (R : Value → PH → Prop) : codeF PG maps_Values_map_table_id_api_Item_table_id_api_Item.ann 200 (bodyOf Try.f29) (endH PG Try.f29 R) (fun t => (#[t0] : Array Value).getD t undef) h0 = maps_Values_map_table_id_api_Item_table_id_api_Item t0 h0 R := by kernel_rfl
theorem maps_Values_map_table_id_api_Item_table_id_api_Item.call {t0 : Value} {h0 : PH} {R : Value → PH → Prop} (H : maps_Values_map_table_id_api_Item_table_id_api_Item t0 h0 R) : CallsH PG id_maps_Values_map_table_id_api_Item_table_id_api_Item #[t0] h0 R :=
  callsF_by maps_Values_map_table_id_api_Item_table_id_api_Item.ann 200 mix Try.func29 (by kernel_rfl) (by kernel_rfl) (by kernel_rfl) (by kernel_rfl) (by simp [Try.ntmps29]) (maps_Values_map_table_id_api_Item_table_id_api_Item.eq t0 h0 R) H

def maps_Values_map_table_id_api_Item_table_id_api_Item_1_b5 (R : Value → PH → Prop) (n4 : List Value → PH → Prop) (t0 : Value) (t6 : Value) (h0 : PH) : Prop :=
 SemH PG (Instr.next t6 false T_) h0 fun v6 h7 =>
 popO (SemP PG (Instr.extract v6 0)) fun v8 =>
 condV v8
 (SemH PG (Instr.entry t6) h7 fun v9 h10 =>
 popO (SemP PG (Instr.extract v9 1)) fun v11 =>
 ∀ r12, h10 r12 = none → bindH (PH.set h10 r12 (.cells (zcells PG T_api_Item) T_api_Item)) fun h13 =>
 SemH PG (storeS T_api_Item (Value.pointer (some ⟨r12, 0, none⟩)) v11) h13 fun v14 h15 =>
 popO (SemE PG h15 (Instr.loadAt T_api_Item (Value.pointer (some ⟨r12, 0, none⟩)))) fun v16 =>
 callC PG t0 #[v16] h15 fun v17 h18 =>
 popO (SemP PG (Op.unary UnOp.not v17)) fun v19 =>
 condV v19
 (R (Value.tuple #[]) h18)
 (n4 [t0, t6] h18))
 (R (Value.tuple #[]) h7)
def maps_Values_map_table_id_api_Item_table_id_api_Item_1 (t0 : Value) (t1 : Value) (h0 : PH) (R : Value → PH → Prop) : Prop :=
 popO (SemE PG h0 (Instr.loadAt T_map_table_id_api_Item t1)) fun v1 =>
 SemH PG (Instr.range T_map_table_id_api_Item v1) h0 fun v2 h3 =>
 LoopL [0, 6] (fun n4 ρ h => maps_Values_map_table_id_api_Item_table_id_api_Item_1_b5 R n4 (ρ 0) (ρ 6) h) [t0, v2] h3
def maps_Values_map_table_id_api_Item_table_id_api_Item_1.ann : Ann := { b := fun i => match i with  | _ => #[], ord := fun i => match i with  | _ => [], keep := fun i => match i with | 1 => [0, 6] | _ => [], n := 15 }
theorem maps_Values_map_table_id_api_Item_table_id_api_Item_1.eq (t0 : Value) (t1 : Value) (h0 : PH) (R : Value → PH → Prop) : codeF PG maps_Values_map_table_id_api_Item_table_id_api_Item_1.ann 200 (bodyOf Try.f48) (endH PG Try.f48 R) (fun t => (#[t0, t1] : Array Value).getD t undef) h0 = maps_Values_map_table_id_api_Item_table_id_api_Item_1 t0 t1 h0 R := by kernel_rfl
theorem maps_Values_map_table_id_api_Item_table_id_api_Item_1.call {t0 : Value} {t1 : Value} {h0 : PH} {R : Value → PH → Prop} (H : maps_Values_map_table_id_api_Item_table_id_api_Item_1 t0 t1 h0 R) : CallsH PG id_maps_Values_map_table_id_api_Item_table_id_api_Item_1 #[t0, t1] h0 R :=
  callsF_by maps_Values_map_table_id_api_Item_table_id_api_Item_1.ann 200 mix Try.func48 (by kernel_rfl) (by kernel_rfl) (by kernel_rfl) (by kernel_rfl) (by simp [Try.ntmps48]) (maps_Values_map_table_id_api_Item_table_id_api_Item_1.eq t0 t1 h0 R) H

def table_Table_Items_1 (t0 : Value) (t1 : Value) (h0 : PH) (R : Value → PH → Prop) : Prop :=
 ∀ r1, h0 r1 = none → bindH (PH.set h0 r1 (.cells (Value.cells t0) T_api_Item)) fun h2 =>
 ∀ r3, h2 r3 = none → bindH (PH.set h2 r3 (.cells (Value.cells t1) T_api_Item)) fun h4 =>
 popO (SemP PG (Instr.fieldAt T_api_Item (Value.pointer (some ⟨r1, 0, none⟩)) 0)) fun v5 =>
 popO (SemP PG (Instr.fieldAt T_api_Packet v5 0)) fun v6 =>
 popO (SemE PG h4 (Instr.loadAt T_int v6)) fun v7 =>
 popO (SemP PG (Instr.fieldAt T_api_Item (Value.pointer (some ⟨r3, 0, none⟩)) 0)) fun v8 =>
 popO (SemP PG (Instr.fieldAt T_api_Packet v8 0)) fun v9 =>
 popO (SemE PG h4 (Instr.loadAt T_int v9)) fun v10 =>
 popO (SemP PG (Instr.fieldAt T_api_Item (Value.pointer (some ⟨r1, 0, none⟩)) 0)) fun v11 =>
 popO (SemP PG (Instr.fieldAt T_api_Packet v11 1)) fun v12 =>
 popO (SemE PG h4 (Instr.loadAt T_uint64 v12)) fun v13 =>
 popO (SemP PG (Instr.fieldAt T_api_Item (Value.pointer (some ⟨r3, 0, none⟩)) 0)) fun v14 =>
 popO (SemP PG (Instr.fieldAt T_api_Packet v14 1)) fun v15 =>
 popO (SemE PG h4 (Instr.loadAt T_uint64 v15)) fun v16 =>
 CallsH PG id_cmp_Compare_int #[v7, v10] h4 fun v17 h18 =>
 SemE PG h18 (Instr.loadAt T_uint64 v15) = some v16 ∧ SemE PG h18 (Instr.loadAt T_uint64 v12) = some v13 ∧ (CallsH PG id_cmp_Compare_uint64 #[v13, v16] h18 fun v19 h20 =>
 (popO (SemA PG (Instr.buildSlice T_sl_int 2 #[(0, v17), (1, v19)])) fun x22 => ∀ r21, h20 r21 = none → popO (SemP PG (x22.2 r21)) fun v23 => bindH (PH.set h20 r21 x22.1) fun h24 =>
 CallsH PG id_cmp_Or_int #[v23] h24 fun v25 h26 =>
 (R v25 h26)))
def table_Table_Items_1.ann : Ann := { b := fun i => match i with | 1 => #[0, 1, 3, 0, 8, 24, 63, 0, 128, 384, 0, 1024, 3072, 8191, 16383, 32767, 65535] | _ => #[], ord := fun i => match i with | 1 => [0, 1, 2, 3, 4, 5, 7, 8, 9, 10, 11, 12, 6, 13, 14, 15, 16] | _ => [], keep := fun i => match i with  | _ => [], n := 21 }
theorem table_Table_Items_1.eq (t0 : Value) (t1 : Value) (h0 : PH) (R : Value → PH → Prop) : codeF PG table_Table_Items_1.ann 200 (bodyOf Try.f31) (endH PG Try.f31 R) (fun t => (#[t0, t1] : Array Value).getD t undef) h0 = table_Table_Items_1 t0 t1 h0 R := by kernel_rfl
theorem table_Table_Items_1.call {t0 : Value} {t1 : Value} {h0 : PH} {R : Value → PH → Prop} (H : table_Table_Items_1 t0 t1 h0 R) : CallsH PG id_table_Table_Items_1 #[t0, t1] h0 R :=
  callsF_by table_Table_Items_1.ann 200 mix Try.func31 (by kernel_rfl) (by kernel_rfl) (by kernel_rfl) (by kernel_rfl) (by simp [Try.ntmps31]) (table_Table_Items_1.eq t0 t1 h0 R) H

def cmp_Or_int_b3 (R : Value → PH → Prop) (n2 : List Value → PH → Prop) (t3 : Value) (t6 : Value) (t7 : Value) (t8 : Value) (h0 : PH) : Prop :=
 popO (SemP PG (binOp BinOp.lss T_int t8 t7)) fun v4 =>
 condV v4
 (popO (SemP PG (Instr.indexAt T_sl_int t6 t8)) fun v5 =>
 popO (SemE PG h0 (Instr.loadAt T_int v5)) fun v6 =>
 popO (SemE PG h0 (binS BinOp.neq T_int (.tmp 12) (.tmp 13) v6 t3)) fun v7 =>
 condV v7
 (R v6 h0)
 (popO (SemP PG (binOp BinOp.add T_int t8 (Value.int IntKind.i64 1))) fun v8 =>
 n2 [t3, t6, t7, v8] h0))
 (R t3 h0)
def cmp_Or_int (t0 : Value) (h0 : PH) (R : Value → PH → Prop) : Prop :=
 popO (SemP PG (Builtin.len_ #[T_sl_int] T_int #[t0])) fun v1 =>
 LoopL [3, 6, 7, 8] (fun n2 ρ h => cmp_Or_int_b3 R n2 (ρ 3) (ρ 6) (ρ 7) (ρ 8) h) [(Value.int IntKind.i64 0), t0, v1, (Value.int IntKind.i64 0)] h0
def cmp_Or_int.ann : Ann := { b := fun i => match i with  | _ => #[], ord := fun i => match i with  | _ => [], keep := fun i => match i with | 3 => [3, 6, 7, 8] | _ => [], n := 18 }
theorem cmp_Or_int.eq (t0 : Value) (h0 : PH) (R : Value → PH → Prop) : codeF PG cmp_Or_int.ann 200 (bodyOf Try.f32) (endH PG Try.f32 R) (fun t => (#[t0] : Array Value).getD t undef) h0 = cmp_Or_int t0 h0 R := by kernel_rfl
theorem cmp_Or_int.call {t0 : Value} {h0 : PH} {R : Value → PH → Prop} (H : cmp_Or_int t0 h0 R) : CallsH PG id_cmp_Or_int #[t0] h0 R :=
  callsF_by cmp_Or_int.ann 200 mix Try.func32 (by kernel_rfl) (by kernel_rfl) (by kernel_rfl) (by kernel_rfl) (by simp [Try.ntmps32]) (cmp_Or_int.eq t0 h0 R) H

def cmp_Compare_int (t0 : Value) (t1 : Value) (h0 : PH) (R : Value → PH → Prop) : Prop :=
 CallsH PG id_cmp_isNaN_int #[t0] h0 fun v1 h2 =>
 CallsH PG id_cmp_isNaN_int #[t1] h2 fun v3 h4 =>
 condV v1
 (condV v3
 (R (Value.int IntKind.i64 0) h4)
 (R (Value.int IntKind.i64 (-1)) h4))
 (condV v3
 (R (Value.int IntKind.i64 1) h4)
 (popO (SemP PG (binOp BinOp.lss T_int t0 t1)) fun v5 =>
 condV v5
 (R (Value.int IntKind.i64 (-1)) h4)
 (popO (SemP PG (binOp BinOp.gtr T_int t0 t1)) fun v6 =>
 condV v6
 (R (Value.int IntKind.i64 1) h4)
 (R (Value.int IntKind.i64 0) h4))))
def cmp_Compare_int.ann : Ann := { b := fun i => match i with  | _ => #[], ord := fun i => match i with  | _ => [], keep := fun i => match i with  | _ => [], n := 20 }
theorem cmp_Compare_int.eq (t0 : Value) (t1 : Value) (h0 : PH) (R : Value → PH → Prop) : codeF PG cmp_Compare_int.ann 200 (bodyOf Try.f33) (endH PG Try.f33 R) (fun t => (#[t0, t1] : Array Value).getD t undef) h0 = cmp_Compare_int t0 t1 h0 R := by kernel_rfl
theorem cmp_Compare_int.call {t0 : Value} {t1 : Value} {h0 : PH} {R : Value → PH → Prop} (H : cmp_Compare_int t0 t1 h0 R) : CallsH PG id_cmp_Compare_int #[t0, t1] h0 R :=
  callsF_by cmp_Compare_int.ann 200 mix Try.func33 (by kernel_rfl) (by kernel_rfl) (by kernel_rfl) (by kernel_rfl) (by simp [Try.ntmps33]) (cmp_Compare_int.eq t0 t1 h0 R) H

def cmp_isNaN_int (t0 : Value) (h0 : PH) (R : Value → PH → Prop) : Prop :=
 popO (SemE PG h0 (binS BinOp.neq T_int (.tmp 3) (.tmp 4) t0 t0)) fun v1 =>
 R v1 h0
def cmp_isNaN_int.ann : Ann := { b := fun i => match i with  | _ => #[], ord := fun i => match i with  | _ => [], keep := fun i => match i with  | _ => [], n := 6 }
theorem cmp_isNaN_int.eq (t0 : Value) (h0 : PH) (R : Value → PH → Prop) : codeF PG cmp_isNaN_int.ann 200 (bodyOf Try.f51) (endH PG Try.f51 R) (fun t => (#[t0] : Array Value).getD t undef) h0 = cmp_isNaN_int t0 h0 R := by kernel_rfl
theorem cmp_isNaN_int.call {t0 : Value} {h0 : PH} {R : Value → PH → Prop} (H : cmp_isNaN_int t0 h0 R) : CallsH PG id_cmp_isNaN_int #[t0] h0 R :=
  callsF_by cmp_isNaN_int.ann 200 mix Try.func51 (by kernel_rfl) (by kernel_rfl) (by kernel_rfl) (by kernel_rfl) (by simp [Try.ntmps51]) (cmp_isNaN_int.eq t0 h0 R) H

def cmp_Compare_uint64 (t0 : Value) (t1 : Value) (h0 : PH) (R : Value → PH → Prop) : Prop :=
 CallsH PG id_cmp_isNaN_uint64 #[t0] h0 fun v1 h2 =>
 CallsH PG id_cmp_isNaN_uint64 #[t1] h2 fun v3 h4 =>
 condV v1
 (condV v3
 (R (Value.int IntKind.i64 0) h4)
 (R (Value.int IntKind.i64 (-1)) h4))
 (condV v3
 (R (Value.int IntKind.i64 1) h4)
 (popO (SemP PG (binOp BinOp.lss T_uint64 t0 t1)) fun v5 =>
 condV v5
 (R (Value.int IntKind.i64 (-1)) h4)
 (popO (SemP PG (binOp BinOp.gtr T_uint64 t0 t1)) fun v6 =>
 condV v6
 (R (Value.int IntKind.i64 1) h4)
 (R (Value.int IntKind.i64 0) h4))))
def cmp_Compare_uint64.ann : Ann := { b := fun i => match i with  | _ => #[], ord := fun i => match i with  | _ => [], keep := fun i => match i with  | _ => [], n := 20 }
theorem cmp_Compare_uint64.eq (t0 : Value) (t1 : Value) (h0 : PH) (R : Value → PH → Prop) : codeF PG cmp_Compare_uint64.ann 200 (bodyOf Try.f34) (endH PG Try.f34 R) (fun t => (#[t0, t1] : Array Value).getD t undef) h0 = cmp_Compare_uint64 t0 t1 h0 R := by kernel_rfl
theorem cmp_Compare_uint64.call {t0 : Value} {t1 : Value} {h0 : PH} {R : Value → PH → Prop} (H : cmp_Compare_uint64 t0 t1 h0 R) : CallsH PG id_cmp_Compare_uint64 #[t0, t1] h0 R :=
  callsF_by cmp_Compare_uint64.ann 200 mix Try.func34 (by kernel_rfl) (by kernel_rfl) (by kernel_rfl) (by kernel_rfl) (by simp [Try.ntmps34]) (cmp_Compare_uint64.eq t0 t1 h0 R) H

def cmp_isNaN_uint64 (t0 : Value) (h0 : PH) (R : Value → PH → Prop) : Prop :=
 popO (SemE PG h0 (binS BinOp.neq T_uint64 (.tmp 3) (.tmp 4) t0 t0)) fun v1 =>
 R v1 h0
def cmp_isNaN_uint64.ann : Ann := { b := fun i => match i with  | _ => #[], ord := fun i => match i with  | _ => [], keep := fun i => match i with  | _ => [], n := 6 }
theorem cmp_isNaN_uint64.eq (t0 : Value) (h0 : PH) (R : Value → PH → Prop) : codeF PG cmp_isNaN_uint64.ann 200 (bodyOf Try.f52) (endH PG Try.f52 R) (fun t => (#[t0] : Array Value).getD t undef) h0 = cmp_isNaN_uint64 t0 h0 R := by kernel_rfl
theorem cmp_isNaN_uint64.call {t0 : Value} {h0 : PH} {R : Value → PH → Prop} (H : cmp_isNaN_uint64 t0 h0 R) : CallsH PG id_cmp_isNaN_uint64 #[t0] h0 R :=
  callsF_by cmp_isNaN_uint64.ann 200 mix Try.func52 (by kernel_rfl) (by kernel_rfl) (by kernel_rfl) (by kernel_rfl) (by simp [Try.ntmps52]) (cmp_isNaN_uint64.eq t0 h0 R) H

def table_Table_Get (t0 : Value) (t1 : Value) (t2 : Value) (h0 : PH) (R : Value → PH → Prop) : Prop :=
 ∀ r1, h0 r1 = none → bindH (PH.set h0 r1 (.cells (zcells PG T_api_Item) T_api_Item)) fun h2 =>
 popO (SemP PG (nilS t0)) fun v3 =>
 popO (SemP PG (Instr.fieldAt T_table_Table v3 0)) fun v4 =>
 popO (SemE PG h2 (Instr.loadAt T_map_table_id_api_Item v4)) fun v5 =>
 popO (SemP PG (Instr.build T_table_id #[(0, t1), (1, t2)])) fun v6 =>
 popO (SemE PG h2 (Instr.lookup T_map_table_id_api_Item v5 v6 true)) fun v7 =>
 popO (SemP PG (Instr.extract v7 0)) fun v8 =>
 popO (SemP PG (Instr.extract v7 1)) fun v9 =>
 ∀ r10, h2 r10 = none → bindH (PH.set h2 r10 (.cells (zcells PG T_api_Item) T_api_Item)) fun h11 =>
 SemH PG (storeS T_api_Item (Value.pointer (some ⟨r10, 0, none⟩)) v8) h11 fun v12 h13 =>
 popO (SemE PG h13 (Instr.loadAt T_api_Item (Value.pointer (some ⟨r10, 0, none⟩)))) fun v14 =>
 SemH PG (storeS T_api_Item (Value.pointer (some ⟨r1, 0, none⟩)) v14) h13 fun v15 h16 =>
 popO (SemE PG h16 (Instr.loadAt T_api_Item (Value.pointer (some ⟨r1, 0, none⟩)))) fun v17 =>
 R (Value.tuple #[v17, v9]) h16
def table_Table_Get.ann : Ann := { b := fun i => match i with  | _ => #[], ord := fun i => match i with  | _ => [], keep := fun i => match i with  | _ => [], n := 23 }
theorem table_Table_Get.eq (t0 : Value) (t1 : Value) (t2 : Value) (h0 : PH) (R : Value → PH → Prop) : codeF PG table_Table_Get.ann 200 (bodyOf Try.f16) (endH PG Try.f16 R) (fun t => (#[t0, t1, t2] : Array Value).getD t undef) h0 = table_Table_Get t0 t1 t2 h0 R := by kernel_rfl
theorem table_Table_Get.call {t0 : Value} {t1 : Value} {t2 : Value} {h0 : PH} {R : Value → PH → Prop} (H : table_Table_Get t0 t1 t2 h0 R) : CallsH PG id_table_Table_Get #[t0, t1, t2] h0 R :=
  callsF_by table_Table_Get.ann 200 mix Try.func16 (by kernel_rfl) (by kernel_rfl) (by kernel_rfl) (by kernel_rfl) (by simp [Try.ntmps16]) (table_Table_Get.eq t0 t1 t2 h0 R) H

def carrackref14_SameItems_b5 (R : Value → PH → Prop) (n4 : List Value → PH → Prop) (t0 : Value) (t1 : Value) (t5 : Value) (h0 : PH) : Prop :=
 popO (SemP PG (Builtin.len_ #[T_sl_api_Item] T_int #[t0])) fun v6 =>
 popO (SemP PG (binOp BinOp.lss T_int t5 v6)) fun v7 =>
 condV v7
 (popO (SemP PG (Instr.indexAt T_sl_api_Item t0 t5)) fun v8 =>
 popO (SemE PG h0 (Instr.loadAt T_api_Item v8)) fun v9 =>
 popO (SemP PG (Instr.indexAt T_sl_api_Item t1 t5)) fun v10 =>
 popO (SemE PG h0 (Instr.loadAt T_api_Item v10)) fun v11 =>
 popO (SemE PG h0 (binS BinOp.neq T_api_Item (.tmp 20) (.tmp 24) v9 v11)) fun v12 =>
 condV v12
 (R (Value.bool false) h0)
 (popO (SemP PG (binOp BinOp.add T_int t5 (Value.int IntKind.i64 1))) fun v13 =>
 n4 [t0, t1, v13] h0))
 (R (Value.bool true) h0)
def carrackref14_SameItems (t0 : Value) (t1 : Value) (h0 : PH) (R : Value → PH → Prop) : Prop :=
 popO (SemP PG (Builtin.len_ #[T_sl_api_Item] T_int #[t0])) fun v1 =>
 popO (SemP PG (Builtin.len_ #[T_sl_api_Item] T_int #[t1])) fun v2 =>
 popO (SemE PG h0 (binS BinOp.neq T_int (.tmp 7) (.tmp 9) v1 v2)) fun v3 =>
 condV v3
 (R (Value.bool false) h0)
 (LoopL [0, 1, 5] (fun n4 ρ h => carrackref14_SameItems_b5 R n4 (ρ 0) (ρ 1) (ρ 5) h) [t0, t1, (Value.int IntKind.i64 0)] h0)
def carrackref14_SameItems.ann : Ann := { b := fun i => match i with | 6 => #[0, 0, 3, 7, 0, 0, 48, 112, 255] | _ => #[], ord := fun i => match i with | 6 => [0, 1, 2, 3, 4, 5, 6, 7, 8] | _ => [], keep := fun i => match i with | 4 => [0, 1, 5] | _ => [], n := 26 }
theorem carrackref14_SameItems.eq (t0 : Value) (t1 : Value) (h0 : PH) (R : Value → PH → Prop) : codeF PG carrackref14_SameItems.ann 200 (bodyOf Try.f18) (endH PG Try.f18 R) (fun t => (#[t0, t1] : Array Value).getD t undef) h0 = carrackref14_SameItems t0 t1 h0 R := by kernel_rfl
theorem carrackref14_SameItems.call {t0 : Value} {t1 : Value} {h0 : PH} {R : Value → PH → Prop} (H : carrackref14_SameItems t0 t1 h0 R) : CallsH PG id_carrackref14_SameItems #[t0, t1] h0 R :=
  callsF_by carrackref14_SameItems.ann 200 mix Try.func18 (by kernel_rfl) (by kernel_rfl) (by kernel_rfl) (by kernel_rfl) (by simp [Try.ntmps18]) (carrackref14_SameItems.eq t0 t1 h0 R) H

def carracklaw15_TableOf_b7 (R : Value → PH → Prop) (n6 : List Value → PH → Prop) (t0 : Value) (t1 : Value) (t5 : Value) (h0 : PH) : Prop :=
 popO (SemP PG (Builtin.len_ #[T_sl_api_Item] T_int #[t1])) fun v8 =>
 popO (SemP PG (binOp BinOp.lss T_int t5 v8)) fun v9 =>
 condV v9
 (popO (SemP PG (Instr.indexAt T_sl_api_Item t1 t5)) fun v10 =>
 popO (SemP PG (Instr.fieldAt T_api_Item v10 0)) fun v11 =>
 popO (SemP PG (Instr.fieldAt T_api_Packet v11 3)) fun v12 =>
 popO (SemE PG h0 (Instr.loadAt T_string v12)) fun v13 =>
 popO (SemP PG (Builtin.len_ #[T_string] T_int #[v13])) fun v14 =>
 popO (SemP PG (binOp BinOp.gtr T_int v14 (Value.int IntKind.i64 300))) fun v15 =>
 condV v15
 (R (Value.bool true) h0)
 (popO (SemP PG (binOp BinOp.add T_int t5 (Value.int IntKind.i64 1))) fun v16 =>
 n6 [t0, t1, v16] h0))
 (CallsH PG id_table_Of #[t0, t1] h0 fun v17 h18 =>
 popO (SemP PG (Instr.extract v17 0)) fun v19 =>
 popO (SemP PG (Instr.extract v17 1)) fun v20 =>
 CallsH PG id_carrackref15_Of #[t0, t1] h18 fun v21 h22 =>
 popO (SemP PG (Instr.extract v21 0)) fun v23 =>
 popO (SemP PG (Instr.extract v21 1)) fun v24 =>
 popO (SemE PG h22 (binS BinOp.neq T_int (.tmp 41) (.tmp 42) v20 v24)) fun v25 =>
 gopV (yV v25) false (fun k28 => k28 v19 h22) h22 fun v26 h27 =>
 gopV (yV v25) false (fun k31 => popO (SemE PG h27 (binS BinOp.eql T_p_table_Table (.tmp 45) (.const (Value.pointer none)) v26 (Value.pointer none))) fun v32 => k31 v32 h27) h27 fun v29 h30 =>
 gopV (yV v25) false (fun k35 => k35 v23 h30) h30 fun v33 h34 =>
 gopV (yV v25) false (fun k38 => popO (SemE PG h34 (binS BinOp.eql T_p_carrackref15_Table (.tmp 47) (.const (Value.pointer none)) v33 (Value.pointer none))) fun v39 => k38 v39 h34) h34 fun v36 h37 =>
 gopV (yV v25) false (fun k42 => popO (SemE PG h37 (binS BinOp.neq T_bool (.tmp 46) (.tmp 48) v29 v36)) fun v43 => k42 v43 h37) h37 fun v40 h41 =>
 popO (pickV v25 (Value.bool true) v40) fun v44 =>
 condV v44
 (R (Value.bool false) h41)
 (popO (SemE PG h41 (binS BinOp.eql T_p_table_Table (.tmp 51) (.const (Value.pointer none)) v19 (Value.pointer none))) fun v45 =>
 gopV (yV v45) false (fun k48 => k48 v19 h41) h41 fun v46 h47 =>
 gopV (yV v45) false (fun k51 => k51 v23 h47) h47 fun v49 h50 =>
 gopV (yV v45) false (fun k54 => popO (SemP PG (nilS v49)) fun v55 => k54 v55 h50) h50 fun v52 h53 =>
 gopV (yV v45) false (fun k58 => popO (SemP PG (Instr.fieldAt T_carrackref15_Table v52 0)) fun v59 => k58 v59 h53) h53 fun v56 h57 =>
 gopV (yV v45) false (fun k62 => popO (SemE PG h57 (Instr.loadAt T_sl_api_Item v56)) fun v63 => k62 v63 h57) h57 fun v60 h61 =>
 gopV (yV v45) false (fun k66 => CallsH PG id_table_Table_Items #[v46] h61 fun v67 h68 => k66 v67 h68) h61 fun v64 h65 =>
 ((yV v45 == some false) = true → SemE PG h65 (Instr.loadAt T_sl_api_Item v56) = some v60) ∧ (gopV (yV v45) false (fun k71 => CallsH PG id_carrackref14_SameItems #[v64, v60] h65 fun v72 h73 => k71 v72 h73) h65 fun v69 h70 =>
 (popO (pickV v45 (Value.bool true) v69) fun v74 =>
 R v74 h70))))
def carracklaw15_TableOf (t0 : Value) (t1 : Value) (h0 : PH) (R : Value → PH → Prop) : Prop :=
 CallsH PG id_carracklaw15_awake #[] h0 fun v1 h2 =>
 popO (SemP PG (Op.unary UnOp.not v1)) fun v3 =>
 condV v3
 (R (Value.bool false) h2)
 (popO (SemP PG (Builtin.len_ #[T_sl_api_Item] T_int #[t1])) fun v4 =>
 popO (SemP PG (binOp BinOp.gtr T_int v4 (Value.int IntKind.i64 100))) fun v5 =>
 condV v5
 (R (Value.bool true) h2)
 (LoopL [0, 1, 5] (fun n6 ρ h => carracklaw15_TableOf_b7 R n6 (ρ 0) (ρ 1) (ρ 5) h) [t0, t1, (Value.int IntKind.i64 0)] h2))
def carracklaw15_TableOf.ann : Ann := { b := fun i => match i with | 14 => #[0, 1, 3, 7, 15, 7, 39, 103, 231, 511, 1023, 2047] | _ => #[], ord := fun i => match i with | 14 => [0, 1, 2, 3, 5, 6, 7, 8, 4, 9, 10, 11] | _ => [], keep := fun i => match i with | 6 => [0, 1, 5] | _ => [], n := 62 }
theorem carracklaw15_TableOf.eq (t0 : Value) (t1 : Value) (h0 : PH) (R : Value → PH → Prop) : codeF PG carracklaw15_TableOf.ann 200 (bodyOf Try.f4) (endH PG Try.f4 R) (fun t => (#[t0, t1] : Array Value).getD t undef) h0 = carracklaw15_TableOf t0 t1 h0 R := by kernel_rfl
theorem carracklaw15_TableOf.call {t0 : Value} {t1 : Value} {h0 : PH} {R : Value → PH → Prop} (H : carracklaw15_TableOf t0 t1 h0 R) : CallsH PG id_carracklaw15_TableOf #[t0, t1] h0 R :=
  callsF_by carracklaw15_TableOf.ann 200 mix Try.func4 (by kernel_rfl) (by kernel_rfl) (by kernel_rfl) (by kernel_rfl) (by simp [Try.ntmps4]) (carracklaw15_TableOf.eq t0 t1 h0 R) H

def table_Of_b8 (R : Value → PH → Prop) (n7 : List Value → PH → Prop) (t0 : Value) (t1 : Value) (t6 : Value) (t8 : Value) (t22 : Value) (t23 : Value) (t24 : Value) (h0 : PH) : Prop :=
 popO (SemP PG (binOp BinOp.lss T_int t24 t23)) fun v9 =>
 condV v9
 (popO (SemP PG (Instr.indexAt T_sl_api_Item t22 t24)) fun v10 =>
 popO (SemE PG h0 (Instr.loadAt T_api_Item v10)) fun v11 =>
 ∀ r12, h0 r12 = none → bindH (PH.set h0 r12 (.cells (zcells PG T_api_Item) T_api_Item)) fun h13 =>
 SemH PG (storeS T_api_Item (Value.pointer (some ⟨r12, 0, none⟩)) v11) h13 fun v14 h15 =>
 popO (SemP PG (Instr.fieldAt T_api_Item (Value.pointer (some ⟨r12, 0, none⟩)) 1)) fun v16 =>
 popO (SemE PG h15 (Instr.loadAt T_int v16)) fun v17 =>
 popO (SemE PG h15 (binS BinOp.neq T_int (.tmp 29) (.const (Value.int IntKind.i64 1)) v17 (Value.int IntKind.i64 1))) fun v18 =>
 gopV (yV v18) true (fun k21 => popO (SemP PG (Instr.fieldAt T_api_Item (Value.pointer (some ⟨r12, 0, none⟩)) 1)) fun v22 => k21 v22 h15) h15 fun v19 h20 =>
 gopV (yV v18) true (fun k25 => popO (SemE PG h20 (Instr.loadAt T_int v19)) fun v26 => k25 v26 h20) h20 fun v23 h24 =>
 gopV (yV v18) true (fun k29 => popO (SemE PG h24 (binS BinOp.neq T_int (.tmp 33) (.const (Value.int IntKind.i64 2)) v23 (Value.int IntKind.i64 2))) fun v30 => k29 v30 h24) h24 fun v27 h28 =>
 popO (pickV v18 v27 (Value.bool false)) fun v31 =>
 gopV (yV v31) false (fun k34 => popO (SemP PG (Instr.fieldAt T_api_Item (Value.pointer (some ⟨r12, 0, none⟩)) 0)) fun v35 => k34 v35 h28) h28 fun v32 h33 =>
 gopV (yV v31) false (fun k38 => popO (SemE PG h33 (Instr.loadAt T_api_Packet v32)) fun v39 => k38 v39 h33) h33 fun v36 h37 =>
 gopV (yV v31) false (fun k42 => CallsH PG id_packet_Check #[v36] h37 fun v43 h44 => k42 v43 h44) h37 fun v40 h41 =>
 gopV (yV v31) false (fun k47 => popO (SemE PG h41 (binS BinOp.neq T_api_Errno (.tmp 39) (.const (Value.int IntKind.i64 0)) v40 (Value.int IntKind.i64 0))) fun v48 => k47 v48 h41) h41 fun v45 h46 =>
 popO (pickV v31 (Value.bool true) v45) fun v49 =>
 condV v49
 (R (Value.tuple #[(Value.pointer none), (Value.int IntKind.i64 1)]) h46)
 (popO (SemP PG (Instr.fieldAt T_api_Item (Value.pointer (some ⟨r12, 0, none⟩)) 0)) fun v50 =>
 popO (SemP PG (Instr.fieldAt T_api_Packet v50 0)) fun v51 =>
 popO (SemE PG h46 (Instr.loadAt T_int v51)) fun v52 =>
 popO (SemP PG (Instr.fieldAt T_api_Item (Value.pointer (some ⟨r12, 0, none⟩)) 0)) fun v53 =>
 popO (SemP PG (Instr.fieldAt T_api_Packet v53 1)) fun v54 =>
 popO (SemE PG h46 (Instr.loadAt T_uint64 v54)) fun v55 =>
 popO (SemP PG (Instr.build T_table_id #[(0, v52), (1, v55)])) fun v56 =>
 ∀ r57, h46 r57 = none → bindH (PH.set h46 r57 (.cells (zcells PG T_table_id) T_table_id)) fun h58 =>
 SemH PG (storeS T_table_id (Value.pointer (some ⟨r57, 0, none⟩)) v56) h58 fun v59 h60 =>
 popO (SemP PG (nilS t6)) fun v61 =>
 popO (SemP PG (Instr.fieldAt T_table_Table v61 0)) fun v62 =>
 popO (SemE PG h60 (Instr.loadAt T_map_table_id_api_Item v62)) fun v63 =>
 popO (SemE PG h60 (Instr.loadAt T_table_id (Value.pointer (some ⟨r57, 0, none⟩)))) fun v64 =>
 popO (SemE PG h60 (Instr.lookup T_map_table_id_api_Item v63 v64 true)) fun v65 =>
 popO (SemP PG (Instr.extract v65 0)) fun v66 =>
 popO (SemP PG (Instr.extract v65 1)) fun v67 =>
 ∀ r68, h60 r68 = none → bindH (PH.set h60 r68 (.cells (zcells PG T_api_Item) T_api_Item)) fun h69 =>
 SemH PG (storeS T_api_Item (Value.pointer (some ⟨r68, 0, none⟩)) v66) h69 fun v70 h71 =>
 (gopV (yV t8) false (fun k74 => k74 v67 h71) h71 fun v72 h73 =>
 popO (pickV t8 (Value.bool true) v72) fun v75 =>
 popO (SemP PG (nilS t6)) fun v76 =>
 popO (SemP PG (Instr.fieldAt T_table_Table v76 0)) fun v77 =>
 popO (SemE PG h73 (Instr.loadAt T_map_table_id_api_Item v77)) fun v78 =>
 popO (SemE PG h73 (Instr.loadAt T_table_id (Value.pointer (some ⟨r57, 0, none⟩)))) fun v79 =>
 popO (SemE PG h73 (Instr.loadAt T_api_Item (Value.pointer (some ⟨r12, 0, none⟩)))) fun v80 =>
 SemH PG (mapUpdS T_map_table_id_api_Item v78 v79 v80) h73 fun v81 h82 =>
 (popO (SemP PG (binOp BinOp.add T_int t24 (Value.int IntKind.i64 1))) fun v83 =>
 n7 [t0, t1, t6, v75, t22, t23, v83] h82))))
 (condV t8
 (R (Value.tuple #[(Value.pointer none), (Value.int IntKind.i64 4)]) h0)
 (popO (SemP PG (Builtin.len_ #[T_sl_api_Item] T_int #[t1])) fun v84 =>
 popO (SemP PG (binOp BinOp.gtr T_int v84 t0)) fun v85 =>
 condV v85
 (R (Value.tuple #[(Value.pointer none), (Value.int IntKind.i64 2)]) h0)
 (R (Value.tuple #[t6, (Value.int IntKind.i64 0)]) h0)))
def table_Of (t0 : Value) (t1 : Value) (h0 : PH) (R : Value → PH → Prop) : Prop :=
 CallsH PG id_table_New #[t0] h0 fun v1 h2 =>
 popO (SemP PG (Instr.extract v1 0)) fun v3 =>
 popO (SemP PG (Instr.extract v1 1)) fun v4 =>
 popO (SemE PG h2 (binS BinOp.neq T_api_Errno (.tmp 19) (.const (Value.int IntKind.i64 0)) v4 (Value.int IntKind.i64 0))) fun v5 =>
 condV v5
 (R (Value.tuple #[(Value.pointer none), v4]) h2)
 (popO (SemP PG (Builtin.len_ #[T_sl_api_Item] T_int #[t1])) fun v6 =>
 LoopL [0, 1, 6, 8, 22, 23, 24] (fun n7 ρ h => table_Of_b8 R n7 (ρ 0) (ρ 1) (ρ 6) (ρ 8) (ρ 22) (ρ 23) (ρ 24) h) [t0, t1, v3, (Value.bool false), t1, v6, (Value.int IntKind.i64 0)] h2)
def table_Of.ann : Ann := { b := fun i => match i with | 11 => #[0, 1, 3, 7, 0, 31, 63, 127, 127, 0, 767, 2047] | 13 => #[0, 1, 3, 7, 0, 0, 63] | _ => #[], ord := fun i => match i with | 11 => [0, 1, 2, 3, 4, 5, 6, 7, 8, 9, 10, 11] | 13 => [0, 1, 2, 3, 4, 5, 6] | _ => [], keep := fun i => match i with | 6 => [0, 1, 6, 8, 22, 23, 24] | _ => [], n := 77 }
theorem table_Of.eq (t0 : Value) (t1 : Value) (h0 : PH) (R : Value → PH → Prop) : codeF PG table_Of.ann 200 (bodyOf Try.f19) (endH PG Try.f19 R) (fun t => (#[t0, t1] : Array Value).getD t undef) h0 = table_Of t0 t1 h0 R := by kernel_rfl
theorem table_Of.call {t0 : Value} {t1 : Value} {h0 : PH} {R : Value → PH → Prop} (H : table_Of t0 t1 h0 R) : CallsH PG id_table_Of #[t0, t1] h0 R :=
  callsF_by table_Of.ann 200 mix Try.func19 (by kernel_rfl) (by kernel_rfl) (by kernel_rfl) (by kernel_rfl) (by simp [Try.ntmps19]) (table_Of.eq t0 t1 h0 R) H

def carrackref15_Of_b26 (R : Value → PH → Prop) (n25 : List Value → PH → Prop) (t0 : Value) (t1 : Value) (t7 : Value) (t8 : Value) (h0 : PH) : Prop :=
 popO (SemP PG (Builtin.len_ #[T_sl_api_Item] T_int #[t1])) fun v27 =>
 popO (SemP PG (binOp BinOp.lss T_int t8 v27)) fun v28 =>
 condV v28
 (popO (SemP PG (Instr.indexAt T_sl_api_Item t1 t8)) fun v29 =>
 popO (SemP PG (Instr.fieldAt T_api_Item v29 0)) fun v30 =>
 popO (SemP PG (Instr.fieldAt T_api_Packet v30 0)) fun v31 =>
 popO (SemE PG h0 (Instr.loadAt T_int v31)) fun v32 =>
 popO (SemP PG (Instr.indexAt T_sl_api_Item t1 t8)) fun v33 =>
 popO (SemP PG (Instr.fieldAt T_api_Item v33 0)) fun v34 =>
 popO (SemP PG (Instr.fieldAt T_api_Packet v34 1)) fun v35 =>
 popO (SemE PG h0 (Instr.loadAt T_uint64 v35)) fun v36 =>
 CallsH PG id_carrackref15_Table_place #[t7, v32, v36] h0 fun v37 h38 =>
 (popO (SemP PG (Instr.extract v37 0)) fun v39 =>
 popO (SemP PG (Instr.extract v37 1)) fun v40 =>
 condV v40
 (R (Value.tuple #[(Value.pointer none), (Value.int IntKind.i64 4)]) h38)
 (popO (SemP PG (Instr.indexAt T_sl_api_Item t1 t8)) fun v41 =>
 popO (SemE PG h38 (Instr.loadAt T_api_Item v41)) fun v42 =>
 CallsH PG id_carrackref15_Table_put #[t7, v42] h38 fun v43 h44 =>
 popO (SemP PG (binOp BinOp.add T_int t8 (Value.int IntKind.i64 1))) fun v45 =>
 n25 [t0, t1, t7, v45] h44)))
 (popO (SemP PG (Builtin.len_ #[T_sl_api_Item] T_int #[t1])) fun v46 =>
 popO (SemP PG (binOp BinOp.gtr T_int v46 t0)) fun v47 =>
 condV v47
 (R (Value.tuple #[(Value.pointer none), (Value.int IntKind.i64 2)]) h0)
 (popO (SemP PG (nilS t7)) fun v48 =>
 popO (SemP PG (Instr.fieldAt T_carrackref15_Table v48 1)) fun v49 =>
 SemH PG (storeS T_int v49 t0) h0 fun v50 h51 =>
 R (Value.tuple #[t7, (Value.int IntKind.i64 0)]) h51))
def carrackref15_Of_b11 (R : Value → PH → Prop) (n10 : List Value → PH → Prop) (t0 : Value) (t1 : Value) (t6 : Value) (h0 : PH) : Prop :=
 popO (SemP PG (Builtin.len_ #[T_sl_api_Item] T_int #[t1])) fun v12 =>
 popO (SemP PG (binOp BinOp.lss T_int t6 v12)) fun v13 =>
 condV v13
 (popO (SemP PG (Instr.indexAt T_sl_api_Item t1 t6)) fun v14 =>
 popO (SemE PG h0 (Instr.loadAt T_api_Item v14)) fun v15 =>
 CallsH PG id_carrackref14_RightItem #[v15] h0 fun v16 h17 =>
 popO (SemP PG (Op.unary UnOp.not v16)) fun v18 =>
 condV v18
 (R (Value.tuple #[(Value.pointer none), (Value.int IntKind.i64 1)]) h17)
 (popO (SemP PG (binOp BinOp.add T_int t6 (Value.int IntKind.i64 1))) fun v19 =>
 n10 [t0, t1, v19] h17))
 (popO (SemP PG (Builtin.len_ #[T_sl_api_Item] T_int #[t1])) fun v20 =>
 popO (SemP PG (binOp BinOp.add T_int v20 (Value.int IntKind.i64 1))) fun v21 =>
 popO (SemP PG (Instr.build T_carrackref15_Table #[(1, v21)])) fun v22 =>
 ∀ r23, h0 r23 = none → bindH (PH.set h0 r23 (.cells (Value.cells v22) T_carrackref15_Table)) fun h24 =>
 LoopL [0, 1, 7, 8] (fun n25 ρ h => carrackref15_Of_b26 R n25 (ρ 0) (ρ 1) (ρ 7) (ρ 8) h) [t0, t1, (Value.pointer (some ⟨r23, 0, none⟩)), (Value.int IntKind.i64 0)] h24)
def carrackref15_Of (t0 : Value) (t1 : Value) (h0 : PH) (R : Value → PH → Prop) : Prop :=
 popO (SemP PG (binOp BinOp.lss T_int t0 (Value.int IntKind.i64 1))) fun v1 =>
 gopV (yV v1) false (fun k4 => k4 t0 h0) h0 fun v2 h3 =>
 gopV (yV v1) false (fun k7 => popO (SemP PG (binOp BinOp.gtr T_int v2 (Value.int IntKind.i64 40))) fun v8 => k7 v8 h3) h3 fun v5 h6 =>
 popO (pickV v1 (Value.bool true) v5) fun v9 =>
 condV v9
 (R (Value.tuple #[(Value.pointer none), (Value.int IntKind.i64 1)]) h6)
 (LoopL [0, 1, 6] (fun n10 ρ h => carrackref15_Of_b11 R n10 (ρ 0) (ρ 1) (ρ 6) h) [t0, t1, (Value.int IntKind.i64 0)] h6)
def carrackref15_Of.ann : Ann := { b := fun i => match i with | 12 => #[0, 0, 0, 6, 14, 30, 62, 0, 0, 384, 896, 1920, 3968, 8191, 16383, 32767, 32767, 65535, 262143] | _ => #[], ord := fun i => match i with | 12 => [0, 1, 2, 3, 4, 5, 6, 7, 8, 9, 10, 11, 12, 13, 14, 15, 16, 17, 18] | _ => [], keep := fun i => match i with | 4 => [0, 1, 6] | 10 => [0, 1, 7, 8] | _ => [], n := 73 }
theorem carrackref15_Of.eq (t0 : Value) (t1 : Value) (h0 : PH) (R : Value → PH → Prop) : codeF PG carrackref15_Of.ann 200 (bodyOf Try.f20) (endH PG Try.f20 R) (fun t => (#[t0, t1] : Array Value).getD t undef) h0 = carrackref15_Of t0 t1 h0 R := by kernel_rfl
theorem carrackref15_Of.call {t0 : Value} {t1 : Value} {h0 : PH} {R : Value → PH → Prop} (H : carrackref15_Of t0 t1 h0 R) : CallsH PG id_carrackref15_Of #[t0, t1] h0 R :=
  callsF_by carrackref15_Of.ann 200 mix Try.func20 (by kernel_rfl) (by kernel_rfl) (by kernel_rfl) (by kernel_rfl) (by simp [Try.ntmps20]) (carrackref15_Of.eq t0 t1 h0 R) H

def carrackref14_RightItem (t0 : Value) (h0 : PH) (R : Value → PH → Prop) : Prop :=
 ∀ r1, h0 r1 = none → bindH (PH.set h0 r1 (.cells (Value.cells t0) T_api_Item)) fun h2 =>
 popO (SemP PG (Instr.fieldAt T_api_Item (Value.pointer (some ⟨r1, 0, none⟩)) 1)) fun v3 =>
 popO (SemE PG h2 (Instr.loadAt T_int v3)) fun v4 =>
 popO (SemE PG h2 (binS BinOp.eql T_int (.tmp 4) (.const (Value.int IntKind.i64 1)) v4 (Value.int IntKind.i64 1))) fun v5 =>
 gopV (yV v5) false (fun k8 => popO (SemP PG (Instr.fieldAt T_api_Item (Value.pointer (some ⟨r1, 0, none⟩)) 1)) fun v9 => k8 v9 h2) h2 fun v6 h7 =>
 gopV (yV v5) false (fun k12 => popO (SemE PG h7 (Instr.loadAt T_int v6)) fun v13 => k12 v13 h7) h7 fun v10 h11 =>
 gopV (yV v5) false (fun k16 => popO (SemE PG h11 (binS BinOp.eql T_int (.tmp 8) (.const (Value.int IntKind.i64 2)) v10 (Value.int IntKind.i64 2))) fun v17 => k16 v17 h11) h11 fun v14 h15 =>
 popO (pickV v5 (Value.bool true) v14) fun v18 =>
 gopV (yV v18) true (fun k21 => popO (SemP PG (Instr.fieldAt T_api_Item (Value.pointer (some ⟨r1, 0, none⟩)) 0)) fun v22 => k21 v22 h15) h15 fun v19 h20 =>
 gopV (yV v18) true (fun k25 => popO (SemE PG h20 (Instr.loadAt T_api_Packet v19)) fun v26 => k25 v26 h20) h20 fun v23 h24 =>
 gopV (yV v18) true (fun k29 => CallsH PG id_carrackref10_Right #[v23] h24 fun v30 h31 => k29 v30 h31) h24 fun v27 h28 =>
 popO (pickV v18 v27 (Value.bool false)) fun v32 =>
 R v32 h28
def carrackref14_RightItem.ann : Ann := { b := fun i => match i with  | _ => #[], ord := fun i => match i with  | _ => [], keep := fun i => match i with  | _ => [], n := 16 }
theorem carrackref14_RightItem.eq (t0 : Value) (h0 : PH) (R : Value → PH → Prop) : codeF PG carrackref14_RightItem.ann 200 (bodyOf Try.f40) (endH PG Try.f40 R) (fun t => (#[t0] : Array Value).getD t undef) h0 = carrackref14_RightItem t0 h0 R := by kernel_rfl
theorem carrackref14_RightItem.call {t0 : Value} {h0 : PH} {R : Value → PH → Prop} (H : carrackref14_RightItem t0 h0 R) : CallsH PG id_carrackref14_RightItem #[t0] h0 R :=
  callsF_by carrackref14_RightItem.ann 200 mix Try.func40 (by kernel_rfl) (by kernel_rfl) (by kernel_rfl) (by kernel_rfl) (by simp [Try.ntmps40]) (carrackref14_RightItem.eq t0 h0 R) H

def carrackref10_Right (t0 : Value) (h0 : PH) (R : Value → PH → Prop) : Prop :=
 ∀ r1, h0 r1 = none → bindH (PH.set h0 r1 (.cells (Value.cells t0) T_api_Packet)) fun h2 =>
 popO (SemP PG (Instr.fieldAt T_api_Packet (Value.pointer (some ⟨r1, 0, none⟩)) 0)) fun v3 =>
 popO (SemE PG h2 (Instr.loadAt T_int v3)) fun v4 =>
 popO (SemE PG h2 (binS BinOp.eql T_int (.tmp 4) (.const (Value.int IntKind.i64 0)) v4 (Value.int IntKind.i64 0))) fun v5 =>
 gopV (yV v5) false (fun k8 => popO (SemP PG (Instr.fieldAt T_api_Packet (Value.pointer (some ⟨r1, 0, none⟩)) 0)) fun v9 => k8 v9 h2) h2 fun v6 h7 =>
 gopV (yV v5) false (fun k12 => popO (SemE PG h7 (Instr.loadAt T_int v6)) fun v13 => k12 v13 h7) h7 fun v10 h11 =>
 gopV (yV v5) false (fun k16 => popO (SemE PG h11 (binS BinOp.eql T_int (.tmp 8) (.const (Value.int IntKind.i64 1)) v10 (Value.int IntKind.i64 1))) fun v17 => k16 v17 h11) h11 fun v14 h15 =>
 popO (pickV v5 (Value.bool true) v14) fun v18 =>
 gopV (yV v18) true (fun k21 => popO (SemP PG (Instr.fieldAt T_api_Packet (Value.pointer (some ⟨r1, 0, none⟩)) 1)) fun v22 => k21 v22 h15) h15 fun v19 h20 =>
 gopV (yV v18) true (fun k25 => popO (SemE PG h20 (Instr.loadAt T_uint64 v19)) fun v26 => k25 v26 h20) h20 fun v23 h24 =>
 gopV (yV v18) true (fun k29 => popO (SemP PG (binOp BinOp.gtr T_uint64 v23 (Value.int IntKind.u64 0))) fun v30 => k29 v30 h24) h24 fun v27 h28 =>
 popO (pickV v18 v27 (Value.bool false)) fun v31 =>
 gopV (yV v31) true (fun k34 => popO (SemP PG (Instr.fieldAt T_api_Packet (Value.pointer (some ⟨r1, 0, none⟩)) 2)) fun v35 => k34 v35 h28) h28 fun v32 h33 =>
 gopV (yV v31) true (fun k38 => popO (SemE PG h33 (Instr.loadAt T_uint64 v32)) fun v39 => k38 v39 h33) h33 fun v36 h37 =>
 gopV (yV v31) true (fun k42 => popO (SemP PG (binOp BinOp.gtr T_uint64 v36 (Value.int IntKind.u64 0))) fun v43 => k42 v43 h37) h37 fun v40 h41 =>
 popO (pickV v31 v40 (Value.bool false)) fun v44 =>
 gopV (yV v44) true (fun k47 => popO (SemP PG (Instr.fieldAt T_api_Packet (Value.pointer (some ⟨r1, 0, none⟩)) 3)) fun v48 => k47 v48 h41) h41 fun v45 h46 =>
 gopV (yV v44) true (fun k51 => popO (SemE PG h46 (Instr.loadAt T_string v45)) fun v52 => k51 v52 h46) h46 fun v49 h50 =>
 gopV (yV v44) true (fun k55 => popO (SemP PG (Builtin.len_ #[T_string] T_int #[v49])) fun v56 => k55 v56 h50) h50 fun v53 h54 =>
 gopV (yV v44) true (fun k59 => popO (SemP PG (binOp BinOp.leq T_int v53 (Value.int IntKind.i64 64))) fun v60 => k59 v60 h54) h54 fun v57 h58 =>
 popO (pickV v44 v57 (Value.bool false)) fun v61 =>
 R v61 h58
def carrackref10_Right.ann : Ann := { b := fun i => match i with  | _ => #[], ord := fun i => match i with  | _ => [], keep := fun i => match i with  | _ => [], n := 27 }
theorem carrackref10_Right.eq (t0 : Value) (h0 : PH) (R : Value → PH → Prop) : codeF PG carrackref10_Right.ann 200 (bodyOf Try.f54) (endH PG Try.f54 R) (fun t => (#[t0] : Array Value).getD t undef) h0 = carrackref10_Right t0 h0 R := by kernel_rfl
theorem carrackref10_Right.call {t0 : Value} {h0 : PH} {R : Value → PH → Prop} (H : carrackref10_Right t0 h0 R) : CallsH PG id_carrackref10_Right #[t0] h0 R :=
  callsF_by carrackref10_Right.ann 200 mix Try.func54 (by kernel_rfl) (by kernel_rfl) (by kernel_rfl) (by kernel_rfl) (by simp [Try.ntmps54]) (carrackref10_Right.eq t0 h0 R) H

def carrackref15_Table_place_b2 (R : Value → PH → Prop) (n1 : List Value → PH → Prop) (t0 : Value) (t1 : Value) (t2 : Value) (t8 : Value) (h0 : PH) : Prop :=
 popO (SemP PG (nilS t0)) fun v3 =>
 popO (SemP PG (Instr.fieldAt T_carrackref15_Table v3 0)) fun v4 =>
 popO (SemE PG h0 (Instr.loadAt T_sl_api_Item v4)) fun v5 =>
 popO (SemP PG (Builtin.len_ #[T_sl_api_Item] T_int #[v5])) fun v6 =>
 popO (SemP PG (binOp BinOp.lss T_int t8 v6)) fun v7 =>
 gopV (yV v7) true (fun k10 => k10 t0 h0) h0 fun v8 h9 =>
 gopV (yV v7) true (fun k13 => popO (SemP PG (nilS v8)) fun v14 => k13 v14 h9) h9 fun v11 h12 =>
 gopV (yV v7) true (fun k17 => popO (SemP PG (Instr.fieldAt T_carrackref15_Table v11 0)) fun v18 => k17 v18 h12) h12 fun v15 h16 =>
 gopV (yV v7) true (fun k21 => popO (SemE PG h16 (Instr.loadAt T_sl_api_Item v15)) fun v22 => k21 v22 h16) h16 fun v19 h20 =>
 gopV (yV v7) true (fun k25 => k25 t8 h20) h20 fun v23 h24 =>
 gopV (yV v7) true (fun k28 => popO (SemP PG (Instr.indexAt T_sl_api_Item v19 v23)) fun v29 => k28 v29 h24) h24 fun v26 h27 =>
 gopV (yV v7) true (fun k32 => popO (SemP PG (Instr.fieldAt T_api_Item v26 0)) fun v33 => k32 v33 h27) h27 fun v30 h31 =>
 gopV (yV v7) true (fun k36 => popO (SemP PG (Instr.fieldAt T_api_Packet v30 0)) fun v37 => k36 v37 h31) h31 fun v34 h35 =>
 gopV (yV v7) true (fun k40 => popO (SemE PG h35 (Instr.loadAt T_int v34)) fun v41 => k40 v41 h35) h35 fun v38 h39 =>
 gopV (yV v7) true (fun k44 => k44 t1 h39) h39 fun v42 h43 =>
 gopV (yV v7) true (fun k47 => popO (SemP PG (binOp BinOp.lss T_int v38 v42)) fun v48 => k47 v48 h43) h43 fun v45 h46 =>
 gopV (yV v7) true (fun k51 => k51 v45 h46) h46 fun v49 h50 =>
 gopV (yV v49) false (fun k54 => k54 t0 h50) h50 fun v52 h53 =>
 gopV (yV v49) false (fun k57 => popO (SemP PG (nilS v52)) fun v58 => k57 v58 h53) h53 fun v55 h56 =>
 gopV (yV v49) false (fun k61 => popO (SemP PG (Instr.fieldAt T_carrackref15_Table v55 0)) fun v62 => k61 v62 h56) h56 fun v59 h60 =>
 gopV (yV v49) false (fun k65 => popO (SemE PG h60 (Instr.loadAt T_sl_api_Item v59)) fun v66 => k65 v66 h60) h60 fun v63 h64 =>
 gopV (yV v49) false (fun k69 => k69 t8 h64) h64 fun v67 h68 =>
 gopV (yV v49) false (fun k72 => popO (SemP PG (Instr.indexAt T_sl_api_Item v63 v67)) fun v73 => k72 v73 h68) h68 fun v70 h71 =>
 gopV (yV v49) false (fun k76 => popO (SemP PG (Instr.fieldAt T_api_Item v70 0)) fun v77 => k76 v77 h71) h71 fun v74 h75 =>
 gopV (yV v49) false (fun k80 => popO (SemP PG (Instr.fieldAt T_api_Packet v74 0)) fun v81 => k80 v81 h75) h75 fun v78 h79 =>
 gopV (yV v49) false (fun k84 => popO (SemE PG h79 (Instr.loadAt T_int v78)) fun v85 => k84 v85 h79) h79 fun v82 h83 =>
 gopV (yV v49) false (fun k88 => k88 t1 h83) h83 fun v86 h87 =>
 gopV (yV v49) false (fun k91 => popO (SemE PG h87 (binS BinOp.eql T_int (.tmp 37) (.tmp 38) v82 v86)) fun v92 => k91 v92 h87) h87 fun v89 h90 =>
 gopV (yV v49) false (fun k95 => k95 v89 h90) h90 fun v93 h94 =>
 gopV (yV v93) true (fun k98 => k98 t0 h94) h94 fun v96 h97 =>
 gopV (yV v93) true (fun k101 => popO (SemP PG (nilS v96)) fun v102 => k101 v102 h97) h97 fun v99 h100 =>
 gopV (yV v93) true (fun k105 => popO (SemP PG (Instr.fieldAt T_carrackref15_Table v99 0)) fun v106 => k105 v106 h100) h100 fun v103 h104 =>
 gopV (yV v93) true (fun k109 => popO (SemE PG h104 (Instr.loadAt T_sl_api_Item v103)) fun v110 => k109 v110 h104) h104 fun v107 h108 =>
 gopV (yV v93) true (fun k113 => k113 t8 h108) h108 fun v111 h112 =>
 gopV (yV v93) true (fun k116 => popO (SemP PG (Instr.indexAt T_sl_api_Item v107 v111)) fun v117 => k116 v117 h112) h112 fun v114 h115 =>
 gopV (yV v93) true (fun k120 => popO (SemP PG (Instr.fieldAt T_api_Item v114 0)) fun v121 => k120 v121 h115) h115 fun v118 h119 =>
 gopV (yV v93) true (fun k124 => popO (SemP PG (Instr.fieldAt T_api_Packet v118 1)) fun v125 => k124 v125 h119) h119 fun v122 h123 =>
 gopV (yV v93) true (fun k128 => popO (SemE PG h123 (Instr.loadAt T_uint64 v122)) fun v129 => k128 v129 h123) h123 fun v126 h127 =>
 gopV (yV v93) true (fun k132 => k132 t2 h127) h127 fun v130 h131 =>
 gopV (yV v93) true (fun k135 => popO (SemP PG (binOp BinOp.lss T_uint64 v126 v130)) fun v136 => k135 v136 h131) h131 fun v133 h134 =>
 gopV (yV v49) false (fun k139 => popO (pickV v93 v133 (Value.bool false)) fun v140 => k139 v140 h134) h134 fun v137 h138 =>
 gopV (yV v7) true (fun k143 => popO (pickV v49 (Value.bool true) v137) fun v144 => k143 v144 h138) h138 fun v141 h142 =>
 popO (pickV v7 v141 (Value.bool false)) fun v145 =>
 condV v145
 (popO (SemP PG (binOp BinOp.add T_int t8 (Value.int IntKind.i64 1))) fun v146 =>
 n1 [t0, t1, t2, v146] h142)
 (popO (SemP PG (nilS t0)) fun v147 =>
 popO (SemP PG (Instr.fieldAt T_carrackref15_Table v147 0)) fun v148 =>
 popO (SemE PG h142 (Instr.loadAt T_sl_api_Item v148)) fun v149 =>
 popO (SemP PG (Builtin.len_ #[T_sl_api_Item] T_int #[v149])) fun v150 =>
 popO (SemP PG (binOp BinOp.lss T_int t8 v150)) fun v151 =>
 gopV (yV v151) true (fun k154 => k154 t0 h142) h142 fun v152 h153 =>
 gopV (yV v151) true (fun k157 => popO (SemP PG (nilS v152)) fun v158 => k157 v158 h153) h153 fun v155 h156 =>
 gopV (yV v151) true (fun k161 => popO (SemP PG (Instr.fieldAt T_carrackref15_Table v155 0)) fun v162 => k161 v162 h156) h156 fun v159 h160 =>
 gopV (yV v151) true (fun k165 => popO (SemE PG h160 (Instr.loadAt T_sl_api_Item v159)) fun v166 => k165 v166 h160) h160 fun v163 h164 =>
 gopV (yV v151) true (fun k169 => k169 t8 h164) h164 fun v167 h168 =>
 gopV (yV v151) true (fun k172 => popO (SemP PG (Instr.indexAt T_sl_api_Item v163 v167)) fun v173 => k172 v173 h168) h168 fun v170 h171 =>
 gopV (yV v151) true (fun k176 => popO (SemP PG (Instr.fieldAt T_api_Item v170 0)) fun v177 => k176 v177 h171) h171 fun v174 h175 =>
 gopV (yV v151) true (fun k180 => popO (SemP PG (Instr.fieldAt T_api_Packet v174 0)) fun v181 => k180 v181 h175) h175 fun v178 h179 =>
 gopV (yV v151) true (fun k184 => popO (SemE PG h179 (Instr.loadAt T_int v178)) fun v185 => k184 v185 h179) h179 fun v182 h183 =>
 gopV (yV v151) true (fun k188 => k188 t1 h183) h183 fun v186 h187 =>
 gopV (yV v151) true (fun k191 => popO (SemE PG h187 (binS BinOp.eql T_int (.tmp 74) (.tmp 75) v182 v186)) fun v192 => k191 v192 h187) h187 fun v189 h190 =>
 popO (pickV v151 v189 (Value.bool false)) fun v193 =>
 gopV (yV v193) true (fun k196 => k196 t0 h190) h190 fun v194 h195 =>
 gopV (yV v193) true (fun k199 => popO (SemP PG (nilS v194)) fun v200 => k199 v200 h195) h195 fun v197 h198 =>
 gopV (yV v193) true (fun k203 => popO (SemP PG (Instr.fieldAt T_carrackref15_Table v197 0)) fun v204 => k203 v204 h198) h198 fun v201 h202 =>
 gopV (yV v193) true (fun k207 => popO (SemE PG h202 (Instr.loadAt T_sl_api_Item v201)) fun v208 => k207 v208 h202) h202 fun v205 h206 =>
 gopV (yV v193) true (fun k211 => k211 t8 h206) h206 fun v209 h210 =>
 gopV (yV v193) true (fun k214 => popO (SemP PG (Instr.indexAt T_sl_api_Item v205 v209)) fun v215 => k214 v215 h210) h210 fun v212 h213 =>
 gopV (yV v193) true (fun k218 => popO (SemP PG (Instr.fieldAt T_api_Item v212 0)) fun v219 => k218 v219 h213) h213 fun v216 h217 =>
 gopV (yV v193) true (fun k222 => popO (SemP PG (Instr.fieldAt T_api_Packet v216 1)) fun v223 => k222 v223 h217) h217 fun v220 h221 =>
 gopV (yV v193) true (fun k226 => popO (SemE PG h221 (Instr.loadAt T_uint64 v220)) fun v227 => k226 v227 h221) h221 fun v224 h225 =>
 gopV (yV v193) true (fun k230 => k230 t2 h225) h225 fun v228 h229 =>
 gopV (yV v193) true (fun k233 => popO (SemE PG h229 (binS BinOp.eql T_uint64 (.tmp 87) (.tmp 88) v224 v228)) fun v234 => k233 v234 h229) h229 fun v231 h232 =>
 popO (pickV v193 v231 (Value.bool false)) fun v235 =>
 R (Value.tuple #[t8, v235]) h232)
def carrackref15_Table_place (t0 : Value) (t1 : Value) (t2 : Value) (h0 : PH) (R : Value → PH → Prop) : Prop :=
 LoopL [0, 1, 2, 8] (fun n1 ρ h => carrackref15_Table_place_b2 R n1 (ρ 0) (ρ 1) (ρ 2) (ρ 8) h) [t0, t1, t2, (Value.int IntKind.i64 0)] h0
def carrackref15_Table_place.ann : Ann := { b := fun i => match i with | 4 => #[0, 0, 0, 4, 12, 28, 60, 126, 254, 510, 1022, 2046, 4094, 510, 16382, 32766, 65534, 131070, 510, 524286, 1048574, 2097150, 4194302, 8388606, 16777214, 33554430, 4194302, 134217726, 268435454, 536870910, 1073741822, 4194302, 4294967294, 8589934590, 4194303, 34359738367] | _ => #[], ord := fun i => match i with | 4 => [0, 1, 2, 3, 4, 5, 6, 7, 8, 9, 10, 11, 12, 13, 14, 15, 16, 17, 18, 19, 20, 21, 22, 23, 24, 25, 26, 27, 28, 29, 30, 31, 32, 33, 34, 35] | _ => [], keep := fun i => match i with | 2 => [0, 1, 2, 8] | _ => [], n := 91 }
theorem carrackref15_Table_place.eq (t0 : Value) (t1 : Value) (t2 : Value) (h0 : PH) (R : Value → PH → Prop) : codeF PG carrackref15_Table_place.ann 200 (bodyOf Try.f41) (endH PG Try.f41 R) (fun t => (#[t0, t1, t2] : Array Value).getD t undef) h0 = carrackref15_Table_place t0 t1 t2 h0 R := by kernel_rfl
theorem carrackref15_Table_place.call {t0 : Value} {t1 : Value} {t2 : Value} {h0 : PH} {R : Value → PH → Prop} (H : carrackref15_Table_place t0 t1 t2 h0 R) : CallsH PG id_carrackref15_Table_place #[t0, t1, t2] h0 R :=
  callsF_by carrackref15_Table_place.ann 200 mix Try.func41 (by kernel_rfl) (by kernel_rfl) (by kernel_rfl) (by kernel_rfl) (by simp [Try.ntmps41]) (carrackref15_Table_place.eq t0 t1 t2 h0 R) H

def carrackref15_Table_put (t0 : Value) (t1 : Value) (h0 : PH) (R : Value → PH → Prop) : Prop :=
 ∀ r1, h0 r1 = none → bindH (PH.set h0 r1 (.cells (Value.cells t1) T_api_Item)) fun h2 =>
 popO (SemP PG (nilS t0)) fun v3 =>
 popO (SemP PG (Instr.fieldAt T_carrackref15_Table v3 0)) fun v4 =>
 popO (SemE PG h2 (Instr.loadAt T_sl_api_Item v4)) fun v5 =>
 popO (SemP PG (Builtin.len_ #[T_sl_api_Item] T_int #[v5])) fun v6 =>
 popO (SemP PG (nilS t0)) fun v7 =>
 popO (SemP PG (Instr.fieldAt T_carrackref15_Table v7 1)) fun v8 =>
 popO (SemE PG h2 (Instr.loadAt T_int v8)) fun v9 =>
 popO (SemP PG (binOp BinOp.geq T_int v6 v9)) fun v10 =>
 condV v10
 (R (Value.int IntKind.i64 2) h2)
 (popO (SemP PG (Instr.fieldAt T_api_Item (Value.pointer (some ⟨r1, 0, none⟩)) 0)) fun v11 =>
 popO (SemP PG (Instr.fieldAt T_api_Packet v11 0)) fun v12 =>
 popO (SemE PG h2 (Instr.loadAt T_int v12)) fun v13 =>
 popO (SemP PG (Instr.fieldAt T_api_Item (Value.pointer (some ⟨r1, 0, none⟩)) 0)) fun v14 =>
 popO (SemP PG (Instr.fieldAt T_api_Packet v14 1)) fun v15 =>
 popO (SemE PG h2 (Instr.loadAt T_uint64 v15)) fun v16 =>
 CallsH PG id_carrackref15_Table_place #[t0, v13, v16] h2 fun v17 h18 =>
 popO (SemP PG (Instr.extract v17 0)) fun v19 =>
 popO (SemP PG (Instr.extract v17 1)) fun v20 =>
 popO (SemP PG (nilS t0)) fun v21 =>
 popO (SemP PG (Instr.fieldAt T_carrackref15_Table v21 0)) fun v22 =>
 popO (SemE PG h18 (Instr.loadAt T_sl_api_Item v22)) fun v23 =>
 popO (SemP PG (Instr.sliceAt T_sl_api_Item v23 none (some v19) none)) fun v24 =>
 popO (SemE PG h18 (Instr.loadAt T_api_Item (Value.pointer (some ⟨r1, 0, none⟩)))) fun v25 =>
 popO (SemP PG (nilS t0)) fun v26 =>
 popO (SemP PG (Instr.fieldAt T_carrackref15_Table v26 0)) fun v27 =>
 popO (SemE PG h18 (Instr.loadAt T_sl_api_Item v27)) fun v28 =>
 popO (SemP PG (Instr.sliceAt T_sl_api_Item v28 (some v19) none none)) fun v29 =>
 popO (SemA PG (Instr.buildSlice T_sl_api_Item 0 #[])) fun x31 => ∀ r30, h18 r30 = none → popO (SemP PG (x31.2 r30)) fun v32 => bindH (PH.set h18 r30 x31.1) fun h33 =>
 SemH PG (Builtin.append_ #[T_sl_api_Item, T_sl_api_Item] T_sl_api_Item #[v32, v24]) h33 fun v34 h35 =>
 SemE PG h35 (Instr.loadAt T_sl_api_Item v27) = some v28 ∧ SemE PG h35 (Instr.loadAt T_api_Item (Value.pointer (some ⟨r1, 0, none⟩))) = some v25 ∧ (popO (SemA PG (Instr.buildSlice T_sl_api_Item 1 #[(0, v25)])) fun x37 => ∀ r36, h35 r36 = none → popO (SemP PG (x37.2 r36)) fun v38 => bindH (PH.set h35 r36 x37.1) fun h39 =>
 SemH PG (Builtin.append_ #[T_sl_api_Item, T_sl_api_Item] T_sl_api_Item #[v34, v38]) h39 fun v40 h41 =>
 SemE PG h41 (Instr.loadAt T_sl_api_Item v27) = some v28 ∧ (SemH PG (Builtin.append_ #[T_sl_api_Item, T_sl_api_Item] T_sl_api_Item #[v40, v29]) h41 fun v42 h43 =>
 (popO (SemP PG (nilS t0)) fun v44 =>
 popO (SemP PG (Instr.fieldAt T_carrackref15_Table v44 0)) fun v45 =>
 SemH PG (storeS T_sl_api_Item v45 v42) h43 fun v46 h47 =>
 (R (Value.int IntKind.i64 0) h47)))))
def carrackref15_Table_put.ann : Ann := { b := fun i => match i with | 1 => #[0, 1, 3, 7, 15, 0, 32, 96, 224, 511] | 4 => #[0, 0, 0, 4, 12, 28, 0, 124, 254, 0, 512, 2046, 0, 4096, 12288, 28672, 0, 126976, 262142, 524287, 1048575, 2097151] | _ => #[], ord := fun i => match i with | 1 => [0, 1, 2, 3, 4, 5, 6, 7, 8, 9] | 4 => [0, 2, 3, 4, 5, 6, 7, 9, 12, 13, 14, 15, 16, 17, 1, 8, 10, 11, 18, 19, 20, 21] | _ => [], keep := fun i => match i with  | _ => [], n := 49 }
theorem carrackref15_Table_put.eq (t0 : Value) (t1 : Value) (h0 : PH) (R : Value → PH → Prop) : codeF PG carrackref15_Table_put.ann 200 (bodyOf Try.f42) (endH PG Try.f42 R) (fun t => (#[t0, t1] : Array Value).getD t undef) h0 = carrackref15_Table_put t0 t1 h0 R := by kernel_rfl
theorem carrackref15_Table_put.call {t0 : Value} {t1 : Value} {h0 : PH} {R : Value → PH → Prop} (H : carrackref15_Table_put t0 t1 h0 R) : CallsH PG id_carrackref15_Table_put #[t0, t1] h0 R :=
  callsF_by carrackref15_Table_put.ann 200 mix Try.func42 (by kernel_rfl) (by kernel_rfl) (by kernel_rfl) (by kernel_rfl) (by simp [Try.ntmps42]) (carrackref15_Table_put.eq t0 t1 h0 R) H

def carracklaw15_TableBounds_b116 (R : Value → PH → Prop) (n51 : List Value → PH → Prop) (n115 : List Value → PH → Prop) (t0 : Value) (t1 : Value) (t2 : Value) (t7 : Value) (t9 : Value) (t12 : Value) (t13 : Value) (h0 : PH) : Prop :=
 popO (SemP PG (Builtin.len_ #[T_sl_api_Item] T_int #[t12])) fun v117 =>
 popO (SemP PG (binOp BinOp.lss T_int t13 v117)) fun v118 =>
 condV v118
 (popO (SemP PG (binOp BinOp.sub T_int t13 (Value.int IntKind.i64 1))) fun v119 =>
 popO (SemP PG (Instr.indexAt T_sl_api_Item t12 v119)) fun v120 =>
 popO (SemP PG (Instr.fieldAt T_api_Item v120 0)) fun v121 =>
 popO (SemE PG h0 (Instr.loadAt T_api_Packet v121)) fun v122 =>
 popO (SemP PG (Instr.indexAt T_sl_api_Item t12 t13)) fun v123 =>
 popO (SemP PG (Instr.fieldAt T_api_Item v123 0)) fun v124 =>
 popO (SemE PG h0 (Instr.loadAt T_api_Packet v124)) fun v125 =>
 ∀ r126, h0 r126 = none → bindH (PH.set h0 r126 (.cells (zcells PG T_api_Packet) T_api_Packet)) fun h127 =>
 ∀ r128, h127 r128 = none → bindH (PH.set h127 r128 (.cells (zcells PG T_api_Packet) T_api_Packet)) fun h129 =>
 SemH PG (storeS T_api_Packet (Value.pointer (some ⟨r126, 0, none⟩)) v122) h129 fun v130 h131 =>
 SemE PG h131 (Instr.loadAt T_api_Packet v124) = some v125 ∧ (SemH PG (storeS T_api_Packet (Value.pointer (some ⟨r128, 0, none⟩)) v125) h131 fun v132 h133 =>
 (popO (SemP PG (Instr.fieldAt T_api_Packet (Value.pointer (some ⟨r126, 0, none⟩)) 0)) fun v134 =>
 popO (SemE PG h133 (Instr.loadAt T_int v134)) fun v135 =>
 popO (SemP PG (Instr.fieldAt T_api_Packet (Value.pointer (some ⟨r128, 0, none⟩)) 0)) fun v136 =>
 popO (SemE PG h133 (Instr.loadAt T_int v136)) fun v137 =>
 popO (SemP PG (binOp BinOp.gtr T_int v135 v137)) fun v138 =>
 gopV (yV v138) false (fun k141 => popO (SemP PG (Instr.fieldAt T_api_Packet (Value.pointer (some ⟨r126, 0, none⟩)) 0)) fun v142 => k141 v142 h133) h133 fun v139 h140 =>
 gopV (yV v138) false (fun k145 => popO (SemE PG h140 (Instr.loadAt T_int v139)) fun v146 => k145 v146 h140) h140 fun v143 h144 =>
 gopV (yV v138) false (fun k149 => popO (SemP PG (Instr.fieldAt T_api_Packet (Value.pointer (some ⟨r128, 0, none⟩)) 0)) fun v150 => k149 v150 h144) h144 fun v147 h148 =>
 gopV (yV v138) false (fun k153 => popO (SemE PG h148 (Instr.loadAt T_int v147)) fun v154 => k153 v154 h148) h148 fun v151 h152 =>
 gopV (yV v138) false (fun k157 => popO (SemE PG h152 (binS BinOp.eql T_int (.tmp 110) (.tmp 112) v143 v151)) fun v158 => k157 v158 h152) h152 fun v155 h156 =>
 gopV (yV v138) false (fun k161 => k161 v155 h156) h156 fun v159 h160 =>
 gopV (yV v159) true (fun k164 => popO (SemP PG (Instr.fieldAt T_api_Packet (Value.pointer (some ⟨r126, 0, none⟩)) 1)) fun v165 => k164 v165 h160) h160 fun v162 h163 =>
 gopV (yV v159) true (fun k168 => popO (SemE PG h163 (Instr.loadAt T_uint64 v162)) fun v169 => k168 v169 h163) h163 fun v166 h167 =>
 gopV (yV v159) true (fun k172 => popO (SemP PG (Instr.fieldAt T_api_Packet (Value.pointer (some ⟨r128, 0, none⟩)) 1)) fun v173 => k172 v173 h167) h167 fun v170 h171 =>
 gopV (yV v159) true (fun k176 => popO (SemE PG h171 (Instr.loadAt T_uint64 v170)) fun v177 => k176 v177 h171) h171 fun v174 h175 =>
 gopV (yV v159) true (fun k180 => popO (SemP PG (binOp BinOp.geq T_uint64 v166 v174)) fun v181 => k180 v181 h175) h175 fun v178 h179 =>
 gopV (yV v138) false (fun k184 => popO (pickV v159 v178 (Value.bool false)) fun v185 => k184 v185 h179) h179 fun v182 h183 =>
 popO (pickV v138 (Value.bool true) v182) fun v186 =>
 condV v186
 (R (Value.bool false) h183)
 (popO (SemP PG (binOp BinOp.add T_int t13 (Value.int IntKind.i64 1))) fun v187 =>
 n115 [t0, t1, t2, t7, t9, t12, v187] h183))))
 (popO (SemP PG (binOp BinOp.add T_int t9 (Value.int IntKind.i64 1))) fun v188 =>
 n51 [t0, t1, t2, t7, v188] h0)
def carracklaw15_TableBounds_b220 (R : Value → PH → Prop) (n219 : List Value → PH → Prop) (t2 : Value) (t7 : Value) (t16 : Value) (t17 : Value) (t18 : Value) (t19 : Value) (h0 : PH) : Prop :=
 popO (SemP PG (binOp BinOp.lss T_int t19 t18)) fun v221 =>
 condV v221
 (popO (SemP PG (Instr.indexAt T_sl_api_Note t2 t19)) fun v222 =>
 popO (SemE PG h0 (Instr.loadAt T_api_Note v222)) fun v223 =>
 CallsH PG id_table_Table_Apply #[t17, v223] h0 fun v224 h225 =>
 popO (SemE PG h225 (binS BinOp.neq T_api_Errno (.tmp 151) (.const (Value.int IntKind.i64 0)) v224 (Value.int IntKind.i64 0))) fun v226 =>
 condV v226
 (R (Value.bool false) h225)
 (popO (SemP PG (binOp BinOp.add T_int t19 (Value.int IntKind.i64 1))) fun v227 =>
 n219 [t2, t7, t16, t17, t18, v227] h225))
 (CallsH PG id_table_Table_Items #[t7] h0 fun v228 h229 =>
 CallsH PG id_carrackref14_SameItems #[v228, t16] h229 fun v230 h231 =>
 gopV (yV v230) true (fun k234 => k234 t18 h231) h231 fun v232 h233 =>
 gopV (yV v230) true (fun k237 => k237 t2 h233) h233 fun v235 h236 =>
 gopV (yV v230) true (fun k240 => popO (SemP PG (Builtin.len_ #[T_sl_api_Note] T_int #[v235])) fun v241 => k240 v241 h236) h236 fun v238 h239 =>
 gopV (yV v230) true (fun k244 => popO (SemE PG h239 (binS BinOp.eql T_int (.tmp 158) (.tmp 160) v232 v238)) fun v245 => k244 v245 h239) h239 fun v242 h243 =>
 gopV (yV v230) true (fun k248 => k248 v242 h243) h243 fun v246 h247 =>
 gopV (yV v246) false (fun k251 => k251 t17 h247) h247 fun v249 h250 =>
 gopV (yV v246) false (fun k254 => k254 t2 h250) h250 fun v252 h253 =>
 gopV (yV v246) false (fun k257 => k257 t18 h253) h253 fun v255 h256 =>
 gopV (yV v246) false (fun k260 => popO (SemP PG (Instr.indexAt T_sl_api_Note v252 v255)) fun v261 => k260 v261 h256) h256 fun v258 h259 =>
 gopV (yV v246) false (fun k264 => popO (SemE PG h259 (Instr.loadAt T_api_Note v258)) fun v265 => k264 v265 h259) h259 fun v262 h263 =>
 gopV (yV v246) false (fun k268 => CallsH PG id_table_Table_Apply #[v249, v262] h263 fun v269 h270 => k268 v269 h270) h263 fun v266 h267 =>
 gopV (yV v246) false (fun k273 => popO (SemE PG h267 (binS BinOp.neq T_api_Errno (.tmp 168) (.const (Value.int IntKind.i64 0)) v266 (Value.int IntKind.i64 0))) fun v274 => k273 v274 h267) h267 fun v271 h272 =>
 gopV (yV v230) true (fun k277 => popO (pickV v246 (Value.bool true) v271) fun v278 => k277 v278 h272) h272 fun v275 h276 =>
 popO (pickV v230 v275 (Value.bool false)) fun v279 =>
 R v279 h276)
def carracklaw15_TableBounds_b52 (R : Value → PH → Prop) (n51 : List Value → PH → Prop) (t0 : Value) (t1 : Value) (t2 : Value) (t7 : Value) (t9 : Value) (h0 : PH) : Prop :=
 popO (SemP PG (Builtin.len_ #[T_sl_carrackref15_Act] T_int #[t1])) fun v53 =>
 popO (SemP PG (binOp BinOp.lss T_int t9 v53)) fun v54 =>
 condV v54
 (CallsH PG id_table_Table_Items #[t7] h0 fun v55 h56 =>
 popO (SemP PG (Instr.indexAt T_sl_carrackref15_Act t1 t9)) fun v57 =>
 popO (SemE PG h56 (Instr.loadAt T_carrackref15_Act v57)) fun v58 =>
 CallsH PG id_carracklaw15_do #[t7, v58] h56 fun v59 h60 =>
 CallsH PG id_table_Table_Items #[t7] h60 fun v61 h62 =>
 popO (SemP PG (Builtin.len_ #[T_sl_api_Item] T_int #[v61])) fun v63 =>
 popO (SemP PG (binOp BinOp.gtr T_int v63 t0)) fun v64 =>
 gopV (yV v64) false (fun k67 => k67 v61 h62) h62 fun v65 h66 =>
 gopV (yV v64) false (fun k70 => popO (SemP PG (Builtin.len_ #[T_sl_api_Item] T_int #[v65])) fun v71 => k70 v71 h66) h66 fun v68 h69 =>
 gopV (yV v64) false (fun k74 => k74 t7 h69) h69 fun v72 h73 =>
 gopV (yV v64) false (fun k77 => CallsH PG id_table_Table_Len #[v72] h73 fun v78 h79 => k77 v78 h79) h73 fun v75 h76 =>
 gopV (yV v64) false (fun k82 => popO (SemE PG h76 (binS BinOp.neq T_int (.tmp 71) (.tmp 73) v68 v75)) fun v83 => k82 v83 h76) h76 fun v80 h81 =>
 popO (pickV v64 (Value.bool true) v80) fun v84 =>
 gopV (yV v84) false (fun k87 => k87 v59 h81) h81 fun v85 h86 =>
 gopV (yV v84) false (fun k90 => popO (SemE PG h86 (binS BinOp.neq T_api_Errno (.tmp 77) (.const (Value.int IntKind.i64 0)) v85 (Value.int IntKind.i64 0))) fun v91 => k90 v91 h86) h86 fun v88 h89 =>
 gopV (yV v84) false (fun k94 => k94 v88 h89) h89 fun v92 h93 =>
 gopV (yV v92) true (fun k97 => k97 v61 h93) h93 fun v95 h96 =>
 gopV (yV v92) true (fun k100 => k100 v55 h96) h96 fun v98 h99 =>
 gopV (yV v92) true (fun k103 => CallsH PG id_carrackref14_SameItems #[v95, v98] h99 fun v104 h105 => k103 v104 h105) h99 fun v101 h102 =>
 gopV (yV v92) true (fun k108 => popO (SemP PG (Op.unary UnOp.not v101)) fun v109 => k108 v109 h102) h102 fun v106 h107 =>
 gopV (yV v84) false (fun k112 => popO (pickV v92 v106 (Value.bool false)) fun v113 => k112 v113 h107) h107 fun v110 h111 =>
 popO (pickV v84 (Value.bool true) v110) fun v114 =>
 condV v114
 (R (Value.bool false) h111)
 (LoopL [0, 1, 2, 7, 9, 12, 13] (fun n115 ρ h => carracklaw15_TableBounds_b116 R n51 n115 (ρ 0) (ρ 1) (ρ 2) (ρ 7) (ρ 9) (ρ 12) (ρ 13) h) [t0, t1, t2, t7, t9, v61, (Value.int IntKind.i64 1)] h111))
 (CallsH PG id_table_Table_Items #[t7] h0 fun v189 h190 =>
 CallsH PG id_table_Table_Copy #[t7] h190 fun v191 h192 =>
 CallsH PG id_table_Table_Fit #[t7, t2] h192 fun v193 h194 =>
 popO (SemE PG h194 (binS BinOp.eql T_p_table_Table (.tmp 129) (.const (Value.pointer none)) v191 (Value.pointer none))) fun v195 =>
 gopV (yV v195) false (fun k198 => k198 v193 h194) h194 fun v196 h197 =>
 gopV (yV v195) false (fun k201 => popO (SemP PG (binOp BinOp.lss T_int v196 (Value.int IntKind.i64 0))) fun v202 => k201 v202 h197) h197 fun v199 h200 =>
 popO (pickV v195 (Value.bool true) v199) fun v203 =>
 gopV (yV v203) false (fun k206 => k206 v193 h200) h200 fun v204 h205 =>
 gopV (yV v203) false (fun k209 => k209 t2 h205) h205 fun v207 h208 =>
 gopV (yV v203) false (fun k212 => popO (SemP PG (Builtin.len_ #[T_sl_api_Note] T_int #[v207])) fun v213 => k212 v213 h208) h208 fun v210 h211 =>
 gopV (yV v203) false (fun k216 => popO (SemP PG (binOp BinOp.gtr T_int v204 v210)) fun v217 => k216 v217 h211) h211 fun v214 h215 =>
 popO (pickV v203 (Value.bool true) v214) fun v218 =>
 condV v218
 (R (Value.bool false) h215)
 (LoopL [2, 7, 16, 17, 18, 19] (fun n219 ρ h => carracklaw15_TableBounds_b220 R n219 (ρ 2) (ρ 7) (ρ 16) (ρ 17) (ρ 18) (ρ 19) h) [t2, t7, v189, v191, v193, (Value.int IntKind.i64 0)] h215))
def carracklaw15_TableBounds (t0 : Value) (t1 : Value) (t2 : Value) (h0 : PH) (R : Value → PH → Prop) : Prop :=
 CallsH PG id_carracklaw15_awake #[] h0 fun v1 h2 =>
 popO (SemP PG (Op.unary UnOp.not v1)) fun v3 =>
 condV v3
 (R (Value.bool false) h2)
 (popO (SemP PG (Builtin.len_ #[T_sl_carrackref15_Act] T_int #[t1])) fun v4 =>
 popO (SemP PG (binOp BinOp.gtr T_int v4 (Value.int IntKind.i64 100))) fun v5 =>
 gopV (yV v5) false (fun k8 => k8 t1 h2) h2 fun v6 h7 =>
 gopV (yV v5) false (fun k11 => CallsH PG id_carracklaw15_notes #[v6] h7 fun v12 h13 => k11 v12 h13) h7 fun v9 h10 =>
 gopV (yV v5) false (fun k16 => CallsH PG id_carracklaw15_few #[v9] h10 fun v17 h18 => k16 v17 h18) h10 fun v14 h15 =>
 gopV (yV v5) false (fun k21 => popO (SemP PG (Op.unary UnOp.not v14)) fun v22 => k21 v22 h15) h15 fun v19 h20 =>
 popO (pickV v5 (Value.bool true) v19) fun v23 =>
 gopV (yV v23) false (fun k26 => k26 t2 h20) h20 fun v24 h25 =>
 gopV (yV v23) false (fun k29 => CallsH PG id_carracklaw15_few #[v24] h25 fun v30 h31 => k29 v30 h31) h25 fun v27 h28 =>
 gopV (yV v23) false (fun k34 => popO (SemP PG (Op.unary UnOp.not v27)) fun v35 => k34 v35 h28) h28 fun v32 h33 =>
 popO (pickV v23 (Value.bool true) v32) fun v36 =>
 condV v36
 (R (Value.bool true) h33)
 (CallsH PG id_table_New #[t0] h33 fun v37 h38 =>
 popO (SemP PG (Instr.extract v37 0)) fun v39 =>
 popO (SemP PG (Instr.extract v37 1)) fun v40 =>
 popO (SemE PG h38 (binS BinOp.neq T_api_Errno (.tmp 41) (.const (Value.int IntKind.i64 0)) v40 (Value.int IntKind.i64 0))) fun v41 =>
 gopV (yV v41) false (fun k44 => k44 v39 h38) h38 fun v42 h43 =>
 gopV (yV v41) false (fun k47 => popO (SemE PG h43 (binS BinOp.eql T_p_table_Table (.tmp 44) (.const (Value.pointer none)) v42 (Value.pointer none))) fun v48 => k47 v48 h43) h43 fun v45 h46 =>
 popO (pickV v41 (Value.bool true) v45) fun v49 =>
 condV v49
 (popO (SemE PG h46 (binS BinOp.eql T_api_Errno (.tmp 47) (.const (Value.int IntKind.i64 1)) v40 (Value.int IntKind.i64 1))) fun v50 =>
 R v50 h46)
 (LoopL [0, 1, 2, 7, 9] (fun n51 ρ h => carracklaw15_TableBounds_b52 R n51 (ρ 0) (ρ 1) (ρ 2) (ρ 7) (ρ 9) h) [t0, t1, t2, v39, (Value.int IntKind.i64 0)] h46)))
def carracklaw15_TableBounds.ann : Ann := { b := fun i => match i with | 19 => #[0, 0, 2, 7, 15, 31, 0, 0, 192, 448, 960, 0, 0, 6207, 16383] | _ => #[], ord := fun i => match i with | 19 => [0, 1, 2, 3, 4, 5, 6, 7, 8, 9, 10, 11, 12, 13, 14] | _ => [], keep := fun i => match i with | 9 => [0, 1, 2, 7, 9] | 17 => [0, 1, 2, 7, 9, 12, 13] | 28 => [2, 7, 16, 17, 18, 19] | _ => [], n := 172 }
theorem carracklaw15_TableBounds.eq (t0 : Value) (t1 : Value) (t2 : Value) (h0 : PH) (R : Value → PH → Prop) : codeF PG carracklaw15_TableBounds.ann 200 (bodyOf Try.f5) (endH PG Try.f5 R) (fun t => (#[t0, t1, t2] : Array Value).getD t undef) h0 = carracklaw15_TableBounds t0 t1 t2 h0 R := by kernel_rfl
theorem carracklaw15_TableBounds.call {t0 : Value} {t1 : Value} {t2 : Value} {h0 : PH} {R : Value → PH → Prop} (H : carracklaw15_TableBounds t0 t1 t2 h0 R) : CallsH PG id_carracklaw15_TableBounds #[t0, t1, t2] h0 R :=
  callsF_by carracklaw15_TableBounds.ann 200 mix Try.func5 (by kernel_rfl) (by kernel_rfl) (by kernel_rfl) (by kernel_rfl) (by simp [Try.ntmps5]) (carracklaw15_TableBounds.eq t0 t1 t2 h0 R) H

def table_Table_Copy (t0 : Value) (h0 : PH) (R : Value → PH → Prop) : Prop :=
 popO (SemP PG (nilS t0)) fun v1 =>
 popO (SemP PG (Instr.fieldAt T_table_Table v1 0)) fun v2 =>
 popO (SemE PG h0 (Instr.loadAt T_map_table_id_api_Item v2)) fun v3 =>
 popO (SemP PG (nilS t0)) fun v4 =>
 popO (SemP PG (Instr.fieldAt T_table_Table v4 1)) fun v5 =>
 popO (SemE PG h0 (Instr.loadAt T_int v5)) fun v6 =>
 CallsH PG id_maps_Clone_map_table_id_api_Item_table_id_api_Item #[v3] h0 fun v7 h8 =>
 SemE PG h8 (Instr.loadAt T_int v5) = some v6 ∧ (popO (SemP PG (Instr.build T_table_Table #[(0, v7), (1, v6)])) fun v9 =>
 ∀ r10, h8 r10 = none → bindH (PH.set h8 r10 (.cells (Value.cells v9) T_table_Table)) fun h11 =>
 R (Value.pointer (some ⟨r10, 0, none⟩)) h11)
def table_Table_Copy.ann : Ann := { b := fun i => match i with | 1 => #[0, 1, 3, 7, 15, 0, 32, 96, 224, 511, 1023, 2047] | _ => #[], ord := fun i => match i with | 1 => [0, 1, 2, 3, 5, 6, 7, 8, 4, 9, 10, 11] | _ => [], keep := fun i => match i with  | _ => [], n := 14 }
theorem table_Table_Copy.eq (t0 : Value) (h0 : PH) (R : Value → PH → Prop) : codeF PG table_Table_Copy.ann 200 (bodyOf Try.f21) (endH PG Try.f21 R) (fun t => (#[t0] : Array Value).getD t undef) h0 = table_Table_Copy t0 h0 R := by kernel_rfl
theorem table_Table_Copy.call {t0 : Value} {h0 : PH} {R : Value → PH → Prop} (H : table_Table_Copy t0 h0 R) : CallsH PG id_table_Table_Copy #[t0] h0 R :=
  callsF_by table_Table_Copy.ann 200 mix Try.func21 (by kernel_rfl) (by kernel_rfl) (by kernel_rfl) (by kernel_rfl) (by simp [Try.ntmps21]) (table_Table_Copy.eq t0 h0 R) H

def maps_Clone_map_table_id_api_Item_table_id_api_Item (t0 : Value) (h0 : PH) (R : Value → PH → Prop) : Prop :=
 popO (SemE PG h0 (binS BinOp.eql T_map_table_id_api_Item (.tmp 3) (.const (Value.map none)) t0 (Value.map none))) fun v1 =>
 condV v1
 (R (Value.map none) h0)
 (popO (SemP PG (Instr.makeInterface T_map_table_id_api_Item t0)) fun v2 =>
 CallsH PG id_maps_clone #[v2] h0 fun v3 h4 =>
 SemH PG (Instr.typeAssert v3 T_interface T_map_table_id_api_Item false) h4 fun v5 h6 =>
 R v5 h6)
def maps_Clone_map_table_id_api_Item_table_id_api_Item.ann : Ann := { b := fun i => match i with  | _ => #[], ord := fun i => match i with  | _ => [], keep := fun i => match i with  | _ => [], n := 9 }
theorem maps_Clone_map_table_id_api_Item_table_id_api_Item.eq (t0 : Value) (h0 : PH) (R : Value → PH → Prop) : codeF PG maps_Clone_map_table_id_api_Item_table_id_api_Item.ann 200 (bodyOf Try.f43) (endH PG Try.f43 R) (fun t => (#[t0] : Array Value).getD t undef) h0 = maps_Clone_map_table_id_api_Item_table_id_api_Item t0 h0 R := by kernel_rfl
theorem maps_Clone_map_table_id_api_Item_table_id_api_Item.call {t0 : Value} {h0 : PH} {R : Value → PH → Prop} (H : maps_Clone_map_table_id_api_Item_table_id_api_Item t0 h0 R) : CallsH PG id_maps_Clone_map_table_id_api_Item_table_id_api_Item #[t0] h0 R :=
  callsF_by maps_Clone_map_table_id_api_Item_table_id_api_Item.ann 200 mix Try.func43 (by kernel_rfl) (by kernel_rfl) (by kernel_rfl) (by kernel_rfl) (by simp [Try.ntmps43]) (maps_Clone_map_table_id_api_Item_table_id_api_Item.eq t0 h0 R) H

def table_Table_Fit_b5 (R : Value → PH → Prop) (n4 : List Value → PH → Prop) (t1 : Value) (t5 : Value) (t10 : Value) (t11 : Value) (t12 : Value) (h0 : PH) : Prop :=
 popO (SemP PG (binOp BinOp.lss T_int t12 t11)) fun v6 =>
 condV v6
 (popO (SemP PG (Instr.indexAt T_sl_api_Note t10 t12)) fun v7 =>
 popO (SemE PG h0 (Instr.loadAt T_api_Note v7)) fun v8 =>
 ∀ r9, h0 r9 = none → bindH (PH.set h0 r9 (.cells (zcells PG T_api_Note) T_api_Note)) fun h10 =>
 SemH PG (storeS T_api_Note (Value.pointer (some ⟨r9, 0, none⟩)) v8) h10 fun v11 h12 =>
 popO (SemE PG h12 (Instr.loadAt T_api_Note (Value.pointer (some ⟨r9, 0, none⟩)))) fun v13 =>
 CallsH PG id_table_Table_Apply #[t5, v13] h12 fun v14 h15 =>
 popO (SemE PG h15 (binS BinOp.neq T_api_Errno (.tmp 19) (.const (Value.int IntKind.i64 0)) v14 (Value.int IntKind.i64 0))) fun v16 =>
 condV v16
 (R t12 h15)
 (popO (SemP PG (binOp BinOp.add T_int t12 (Value.int IntKind.i64 1))) fun v17 =>
 n4 [t1, t5, t10, t11, v17] h15))
 (popO (SemP PG (Builtin.len_ #[T_sl_api_Note] T_int #[t1])) fun v18 =>
 R v18 h0)
def table_Table_Fit (t0 : Value) (t1 : Value) (h0 : PH) (R : Value → PH → Prop) : Prop :=
 CallsH PG id_table_Table_Copy #[t0] h0 fun v1 h2 =>
 popO (SemP PG (Builtin.len_ #[T_sl_api_Note] T_int #[t1])) fun v3 =>
 LoopL [1, 5, 10, 11, 12] (fun n4 ρ h => table_Table_Fit_b5 R n4 (ρ 1) (ρ 5) (ρ 10) (ρ 11) (ρ 12) h) [t1, v1, t1, v3, (Value.int IntKind.i64 0)] h2
def table_Table_Fit.ann : Ann := { b := fun i => match i with  | _ => #[], ord := fun i => match i with  | _ => [], keep := fun i => match i with | 3 => [1, 5, 10, 11, 12] | _ => [], n := 25 }
theorem table_Table_Fit.eq (t0 : Value) (t1 : Value) (h0 : PH) (R : Value → PH → Prop) : codeF PG table_Table_Fit.ann 200 (bodyOf Try.f22) (endH PG Try.f22 R) (fun t => (#[t0, t1] : Array Value).getD t undef) h0 = table_Table_Fit t0 t1 h0 R := by kernel_rfl
theorem table_Table_Fit.call {t0 : Value} {t1 : Value} {h0 : PH} {R : Value → PH → Prop} (H : table_Table_Fit t0 t1 h0 R) : CallsH PG id_table_Table_Fit #[t0, t1] h0 R :=
  callsF_by table_Table_Fit.ann 200 mix Try.func22 (by kernel_rfl) (by kernel_rfl) (by kernel_rfl) (by kernel_rfl) (by simp [Try.ntmps22]) (table_Table_Fit.eq t0 t1 h0 R) H

def carracklaw15_TablePlays_b72 (R : Value → PH → Prop) (n71 : List Value → PH → Prop) (t0 : Value) (t1 : Value) (t2 : Value) (t3 : Value) (t4 : Value) (t11 : Value) (t13 : Value) (t14 : Value) (h0 : PH) : Prop :=
 popO (SemP PG (Builtin.len_ #[T_sl_carrackref15_Act] T_int #[t1])) fun v73 =>
 popO (SemP PG (binOp BinOp.lss T_int t14 v73)) fun v74 =>
 condV v74
 (popO (SemP PG (Instr.indexAt T_sl_carrackref15_Act t1 t14)) fun v75 =>
 popO (SemE PG h0 (Instr.loadAt T_carrackref15_Act v75)) fun v76 =>
 popO (SemP PG (Instr.indexAt T_sl_carrackref15_Act t1 t14)) fun v77 =>
 popO (SemE PG h0 (Instr.loadAt T_carrackref15_Act v77)) fun v78 =>
 CallsH PG id_carracklaw15_do #[t11, v76] h0 fun v79 h80 =>
 SemE PG h80 (Instr.loadAt T_carrackref15_Act v77) = some v78 ∧ (CallsH PG id_carrackref15_Table_Act #[t13, v78] h80 fun v81 h82 =>
 (popO (SemE PG h82 (binS BinOp.neq T_int (.tmp 73) (.tmp 79) v79 v81)) fun v83 =>
 gopV (yV v83) false (fun k86 => k86 t11 h82) h82 fun v84 h85 =>
 gopV (yV v83) false (fun k89 => k89 t13 h85) h85 fun v87 h88 =>
 gopV (yV v83) false (fun k92 => popO (SemP PG (nilS v87)) fun v93 => k92 v93 h88) h88 fun v90 h91 =>
 gopV (yV v83) false (fun k96 => popO (SemP PG (Instr.fieldAt T_carrackref15_Table v90 0)) fun v97 => k96 v97 h91) h91 fun v94 h95 =>
 gopV (yV v83) false (fun k100 => popO (SemE PG h95 (Instr.loadAt T_sl_api_Item v94)) fun v101 => k100 v101 h95) h95 fun v98 h99 =>
 gopV (yV v83) false (fun k104 => CallsH PG id_table_Table_Items #[v84] h99 fun v105 h106 => k104 v105 h106) h99 fun v102 h103 =>
 ((yV v83 == some false) = true → SemE PG h103 (Instr.loadAt T_sl_api_Item v94) = some v98) ∧ (gopV (yV v83) false (fun k109 => CallsH PG id_carrackref14_SameItems #[v102, v98] h103 fun v110 h111 => k109 v110 h111) h103 fun v107 h108 =>
 (gopV (yV v83) false (fun k114 => popO (SemP PG (Op.unary UnOp.not v107)) fun v115 => k114 v115 h108) h108 fun v112 h113 =>
 popO (pickV v83 (Value.bool true) v112) fun v116 =>
 gopV (yV v116) false (fun k119 => k119 t11 h113) h113 fun v117 h118 =>
 gopV (yV v116) false (fun k122 => k122 t13 h118) h118 fun v120 h121 =>
 gopV (yV v116) false (fun k125 => popO (SemP PG (nilS v120)) fun v126 => k125 v126 h121) h121 fun v123 h124 =>
 gopV (yV v116) false (fun k129 => popO (SemP PG (Instr.fieldAt T_carrackref15_Table v123 0)) fun v130 => k129 v130 h124) h124 fun v127 h128 =>
 gopV (yV v116) false (fun k133 => popO (SemE PG h128 (Instr.loadAt T_sl_api_Item v127)) fun v134 => k133 v134 h128) h128 fun v131 h132 =>
 gopV (yV v116) false (fun k137 => popO (SemP PG (Builtin.len_ #[T_sl_api_Item] T_int #[v131])) fun v138 => k137 v138 h132) h132 fun v135 h136 =>
 gopV (yV v116) false (fun k141 => CallsH PG id_table_Table_Len #[v117] h136 fun v142 h143 => k141 v142 h143) h136 fun v139 h140 =>
 ((yV v116 == some false) = true → SemE PG h140 (Instr.loadAt T_sl_api_Item v127) = some v131) ∧ (gopV (yV v116) false (fun k146 => popO (SemE PG h140 (binS BinOp.neq T_int (.tmp 93) (.tmp 98) v139 v135)) fun v147 => k146 v147 h140) h140 fun v144 h145 =>
 popO (pickV v116 (Value.bool true) v144) fun v148 =>
 condV v148
 (R (Value.bool false) h145)
 (CallsH PG id_table_Table_Get #[t11, t2, t3] h145 fun v149 h150 =>
 popO (SemP PG (Instr.extract v149 0)) fun v151 =>
 popO (SemP PG (Instr.extract v149 1)) fun v152 =>
 ∀ r153, h150 r153 = none → bindH (PH.set h150 r153 (.cells (zcells PG T_api_Item) T_api_Item)) fun h154 =>
 SemH PG (storeS T_api_Item (Value.pointer (some ⟨r153, 0, none⟩)) v151) h154 fun v155 h156 =>
 CallsH PG id_carrackref15_Table_Get #[t13, t2, t3] h156 fun v157 h158 =>
 popO (SemP PG (Instr.extract v157 0)) fun v159 =>
 popO (SemP PG (Instr.extract v157 1)) fun v160 =>
 ∀ r161, h158 r161 = none → bindH (PH.set h158 r161 (.cells (zcells PG T_api_Item) T_api_Item)) fun h162 =>
 SemH PG (storeS T_api_Item (Value.pointer (some ⟨r161, 0, none⟩)) v159) h162 fun v163 h164 =>
 popO (SemE PG h164 (Instr.loadAt T_api_Item (Value.pointer (some ⟨r153, 0, none⟩)))) fun v165 =>
 popO (SemE PG h164 (Instr.loadAt T_api_Item (Value.pointer (some ⟨r161, 0, none⟩)))) fun v166 =>
 popO (SemE PG h164 (binS BinOp.neq T_api_Item (.tmp 115) (.tmp 116) v165 v166)) fun v167 =>
 gopV (yV v167) false (fun k170 => k170 v152 h164) h164 fun v168 h169 =>
 gopV (yV v167) false (fun k173 => k173 v160 h169) h169 fun v171 h172 =>
 gopV (yV v167) false (fun k176 => popO (SemE PG h172 (binS BinOp.neq T_bool (.tmp 119) (.tmp 120) v168 v171)) fun v177 => k176 v177 h172) h172 fun v174 h175 =>
 popO (pickV v167 (Value.bool true) v174) fun v178 =>
 condV v178
 (R (Value.bool false) h175)
 (popO (SemP PG (binOp BinOp.add T_int t14 (Value.int IntKind.i64 1))) fun v179 =>
 n71 [t0, t1, t2, t3, t4, t11, t13, v179] h175))))))))
 (CallsH PG id_table_Table_Copy #[t11] h0 fun v180 h181 =>
 popO (SemE PG h181 (binS BinOp.neq T_p_table_Table (.tmp 125) (.const (Value.pointer none)) v180 (Value.pointer none))) fun v182 =>
 gopV (yV v182) true (fun k185 => k185 t11 h181) h181 fun v183 h184 =>
 gopV (yV v182) true (fun k188 => k188 t4 h184) h184 fun v186 h187 =>
 gopV (yV v182) true (fun k191 => k191 t13 h187) h187 fun v189 h190 =>
 gopV (yV v182) true (fun k194 => k194 t4 h190) h190 fun v192 h193 =>
 gopV (yV v182) true (fun k197 => CallsH PG id_table_Table_Fit #[v183, v186] h193 fun v198 h199 => k197 v198 h199) h193 fun v195 h196 =>
 (gopV (yV v182) true (fun k202 => CallsH PG id_carrackref15_Table_Fit #[v189, v192] h196 fun v203 h204 => k202 v203 h204) h196 fun v200 h201 =>
 (gopV (yV v182) true (fun k207 => popO (SemE PG h201 (binS BinOp.eql T_int (.tmp 130) (.tmp 133) v195 v200)) fun v208 => k207 v208 h201) h201 fun v205 h206 =>
 popO (pickV v182 v205 (Value.bool false)) fun v209 =>
 gopV (yV v209) true (fun k212 => k212 t11 h206) h206 fun v210 h211 =>
 gopV (yV v209) true (fun k215 => k215 t13 h211) h211 fun v213 h214 =>
 gopV (yV v209) true (fun k218 => popO (SemP PG (nilS v213)) fun v219 => k218 v219 h214) h214 fun v216 h217 =>
 gopV (yV v209) true (fun k222 => popO (SemP PG (Instr.fieldAt T_carrackref15_Table v216 0)) fun v223 => k222 v223 h217) h217 fun v220 h221 =>
 gopV (yV v209) true (fun k226 => popO (SemE PG h221 (Instr.loadAt T_sl_api_Item v220)) fun v227 => k226 v227 h221) h221 fun v224 h225 =>
 gopV (yV v209) true (fun k230 => CallsH PG id_table_Table_Items #[v210] h225 fun v231 h232 => k230 v231 h232) h225 fun v228 h229 =>
 ((yV v209 == some true) = true → SemE PG h229 (Instr.loadAt T_sl_api_Item v220) = some v224) ∧ (gopV (yV v209) true (fun k235 => CallsH PG id_carrackref14_SameItems #[v228, v224] h229 fun v236 h237 => k235 v236 h237) h229 fun v233 h234 =>
 (popO (pickV v209 v233 (Value.bool false)) fun v238 =>
 gopV (yV v238) true (fun k241 => k241 v180 h234) h234 fun v239 h240 =>
 gopV (yV v238) true (fun k244 => k244 t13 h240) h240 fun v242 h243 =>
 gopV (yV v238) true (fun k247 => popO (SemP PG (nilS v242)) fun v248 => k247 v248 h243) h243 fun v245 h246 =>
 gopV (yV v238) true (fun k251 => popO (SemP PG (Instr.fieldAt T_carrackref15_Table v245 0)) fun v252 => k251 v252 h246) h246 fun v249 h250 =>
 gopV (yV v238) true (fun k255 => popO (SemE PG h250 (Instr.loadAt T_sl_api_Item v249)) fun v256 => k255 v256 h250) h250 fun v253 h254 =>
 gopV (yV v238) true (fun k259 => CallsH PG id_table_Table_Items #[v239] h254 fun v260 h261 => k259 v260 h261) h254 fun v257 h258 =>
 ((yV v238 == some true) = true → SemE PG h258 (Instr.loadAt T_sl_api_Item v249) = some v253) ∧ (gopV (yV v238) true (fun k264 => CallsH PG id_carrackref14_SameItems #[v257, v253] h258 fun v265 h266 => k264 v265 h266) h258 fun v262 h263 =>
 (popO (pickV v238 v262 (Value.bool false)) fun v267 =>
 gopV (yV v267) true (fun k270 => k270 t11 h263) h263 fun v268 h269 =>
 gopV (yV v267) true (fun k273 => k273 t0 h269) h269 fun v271 h272 =>
 gopV (yV v267) true (fun k276 => CallsH PG id_table_Table_Room #[v268] h272 fun v277 h278 => k276 v277 h278) h272 fun v274 h275 =>
 (gopV (yV v267) true (fun k281 => popO (SemE PG h275 (binS BinOp.eql T_int (.tmp 156) (.tmp 157) v274 v271)) fun v282 => k281 v282 h275) h275 fun v279 h280 =>
 popO (pickV v267 v279 (Value.bool false)) fun v283 =>
 gopV (yV v283) true (fun k286 => k286 v180 h280) h280 fun v284 h285 =>
 gopV (yV v283) true (fun k289 => k289 t0 h285) h285 fun v287 h288 =>
 gopV (yV v283) true (fun k292 => CallsH PG id_table_Table_Room #[v284] h288 fun v293 h294 => k292 v293 h294) h288 fun v290 h291 =>
 (gopV (yV v283) true (fun k297 => popO (SemE PG h291 (binS BinOp.eql T_int (.tmp 162) (.tmp 163) v290 v287)) fun v298 => k297 v298 h291) h291 fun v295 h296 =>
 popO (pickV v283 v295 (Value.bool false)) fun v299 =>
 R v299 h296)))))))))
def carracklaw15_TablePlays (t0 : Value) (t1 : Value) (t2 : Value) (t3 : Value) (t4 : Value) (h0 : PH) (R : Value → PH → Prop) : Prop :=
 CallsH PG id_carracklaw15_awake #[] h0 fun v1 h2 =>
 popO (SemP PG (Op.unary UnOp.not v1)) fun v3 =>
 condV v3
 (R (Value.bool false) h2)
 (popO (SemP PG (Builtin.len_ #[T_sl_carrackref15_Act] T_int #[t1])) fun v4 =>
 popO (SemP PG (binOp BinOp.gtr T_int v4 (Value.int IntKind.i64 100))) fun v5 =>
 gopV (yV v5) false (fun k8 => k8 t1 h2) h2 fun v6 h7 =>
 gopV (yV v5) false (fun k11 => CallsH PG id_carracklaw15_notes #[v6] h7 fun v12 h13 => k11 v12 h13) h7 fun v9 h10 =>
 gopV (yV v5) false (fun k16 => CallsH PG id_carracklaw15_few #[v9] h10 fun v17 h18 => k16 v17 h18) h10 fun v14 h15 =>
 gopV (yV v5) false (fun k21 => popO (SemP PG (Op.unary UnOp.not v14)) fun v22 => k21 v22 h15) h15 fun v19 h20 =>
 popO (pickV v5 (Value.bool true) v19) fun v23 =>
 gopV (yV v23) false (fun k26 => k26 t4 h20) h20 fun v24 h25 =>
 gopV (yV v23) false (fun k29 => CallsH PG id_carracklaw15_few #[v24] h25 fun v30 h31 => k29 v30 h31) h25 fun v27 h28 =>
 gopV (yV v23) false (fun k34 => popO (SemP PG (Op.unary UnOp.not v27)) fun v35 => k34 v35 h28) h28 fun v32 h33 =>
 popO (pickV v23 (Value.bool true) v32) fun v36 =>
 condV v36
 (R (Value.bool true) h33)
 (CallsH PG id_table_New #[t0] h33 fun v37 h38 =>
 popO (SemP PG (Instr.extract v37 0)) fun v39 =>
 popO (SemP PG (Instr.extract v37 1)) fun v40 =>
 popO (SemP PG (binOp BinOp.lss T_int t0 (Value.int IntKind.i64 1))) fun v41 =>
 gopV (yV v41) false (fun k44 => k44 t0 h38) h38 fun v42 h43 =>
 gopV (yV v41) false (fun k47 => popO (SemP PG (binOp BinOp.gtr T_int v42 (Value.int IntKind.i64 40))) fun v48 => k47 v48 h43) h43 fun v45 h46 =>
 popO (pickV v41 (Value.bool true) v45) fun v49 =>
 condV v49
 (popO (SemE PG h46 (binS BinOp.eql T_api_Errno (.tmp 47) (.const (Value.int IntKind.i64 1)) v40 (Value.int IntKind.i64 1))) fun v50 =>
 gopV (yV v50) true (fun k53 => k53 v39 h46) h46 fun v51 h52 =>
 gopV (yV v50) true (fun k56 => popO (SemE PG h52 (binS BinOp.eql T_p_table_Table (.tmp 50) (.const (Value.pointer none)) v51 (Value.pointer none))) fun v57 => k56 v57 h52) h52 fun v54 h55 =>
 popO (pickV v50 v54 (Value.bool false)) fun v58 =>
 R v58 h55)
 (popO (SemE PG h46 (binS BinOp.neq T_api_Errno (.tmp 53) (.const (Value.int IntKind.i64 0)) v40 (Value.int IntKind.i64 0))) fun v59 =>
 gopV (yV v59) false (fun k62 => k62 v39 h46) h46 fun v60 h61 =>
 gopV (yV v59) false (fun k65 => popO (SemE PG h61 (binS BinOp.eql T_p_table_Table (.tmp 56) (.const (Value.pointer none)) v60 (Value.pointer none))) fun v66 => k65 v66 h61) h61 fun v63 h64 =>
 popO (pickV v59 (Value.bool true) v63) fun v67 =>
 condV v67
 (R (Value.bool false) h64)
 (popO (SemP PG (Instr.build T_carrackref15_Table #[(1, t0)])) fun v68 =>
 ∀ r69, h64 r69 = none → bindH (PH.set h64 r69 (.cells (Value.cells v68) T_carrackref15_Table)) fun h70 =>
 LoopL [0, 1, 2, 3, 4, 11, 13, 14] (fun n71 ρ h => carracklaw15_TablePlays_b72 R n71 (ρ 0) (ρ 1) (ρ 2) (ρ 3) (ρ 4) (ρ 11) (ρ 13) (ρ 14) h) [t0, t1, t2, t3, t4, v39, (Value.pointer (some ⟨r69, 0, none⟩)), (Value.int IntKind.i64 0)] h70))))
def carracklaw15_TablePlays.ann : Ann := { b := fun i => match i with | 14 => #[0, 0, 0, 6, 14, 31, 0, 0, 0, 384, 896, 2047, 4095, 8191, 16383, 32767, 16383, 81919, 212991, 475135, 1048575, 2097151, 4194303, 8388607, 16777215, 33554431, 16777215, 83886079, 218103807, 486539263, 1023410175, 2147483647, 4294967295] | 21 => #[0, 1, 3, 7, 7, 31, 7, 7, 255, 511, 1023, 2047, 4095, 8191, 4095, 20479, 53247, 118783, 262143, 524287, 1048575, 2097151, 4194303, 2097151, 10485759, 27262975, 60817407, 134217727, 268435455, 536870911, 1073741823, 2147483647, 1073741823, 8589934591, 17179869183, 34359738367, 68719476735, 137438953471, 68719476735, 549755813887, 1099511627775, 2199023255551] | _ => #[], ord := fun i => match i with | 14 => [0, 1, 2, 3, 4, 6, 7, 8, 9, 10, 5, 11, 12, 13, 14, 16, 17, 18, 19, 15, 20, 21, 22, 23, 24, 26, 27, 28, 29, 30, 25, 31, 32] | 21 => [0, 1, 2, 3, 4, 6, 7, 5, 8, 9, 10, 11, 12, 14, 15, 16, 17, 13, 18, 19, 20, 21, 23, 24, 25, 26, 22, 27, 28, 29, 30, 32, 31, 33, 34, 35, 36, 38, 37, 39, 40, 41] | _ => [], keep := fun i => match i with | 12 => [0, 1, 2, 3, 4, 11, 13, 14] | _ => [], n := 166 }
theorem carracklaw15_TablePlays.eq (t0 : Value) (t1 : Value) (t2 : Value) (t3 : Value) (t4 : Value) (h0 : PH) (R : Value → PH → Prop) : codeF PG carracklaw15_TablePlays.ann 200 (bodyOf Try.f6) (endH PG Try.f6 R) (fun t => (#[t0, t1, t2, t3, t4] : Array Value).getD t undef) h0 = carracklaw15_TablePlays t0 t1 t2 t3 t4 h0 R := by kernel_rfl
theorem carracklaw15_TablePlays.call {t0 : Value} {t1 : Value} {t2 : Value} {t3 : Value} {t4 : Value} {h0 : PH} {R : Value → PH → Prop} (H : carracklaw15_TablePlays t0 t1 t2 t3 t4 h0 R) : CallsH PG id_carracklaw15_TablePlays #[t0, t1, t2, t3, t4] h0 R :=
  callsF_by carracklaw15_TablePlays.ann 200 mix Try.func6 (by kernel_rfl) (by kernel_rfl) (by kernel_rfl) (by kernel_rfl) (by simp [Try.ntmps6]) (carracklaw15_TablePlays.eq t0 t1 t2 t3 t4 h0 R) H

def carrackref15_Table_Act (t0 : Value) (t1 : Value) (h0 : PH) (R : Value → PH → Prop) : Prop :=
 ∀ r1, h0 r1 = none → bindH (PH.set h0 r1 (.cells (Value.cells t1) T_carrackref15_Act)) fun h2 =>
 popO (SemP PG (Instr.fieldAt T_carrackref15_Act (Value.pointer (some ⟨r1, 0, none⟩)) 0)) fun v3 =>
 popO (SemE PG h2 (Instr.loadAt T_bool v3)) fun v4 =>
 condV v4
 (popO (SemP PG (Instr.fieldAt T_carrackref15_Act (Value.pointer (some ⟨r1, 0, none⟩)) 1)) fun v5 =>
 popO (SemP PG (Instr.fieldAt T_api_Note v5 1)) fun v6 =>
 popO (SemP PG (Instr.fieldAt T_api_Packet v6 0)) fun v7 =>
 popO (SemE PG h2 (Instr.loadAt T_int v7)) fun v8 =>
 popO (SemP PG (Instr.fieldAt T_carrackref15_Act (Value.pointer (some ⟨r1, 0, none⟩)) 1)) fun v9 =>
 popO (SemP PG (Instr.fieldAt T_api_Note v9 1)) fun v10 =>
 popO (SemP PG (Instr.fieldAt T_api_Packet v10 1)) fun v11 =>
 popO (SemE PG h2 (Instr.loadAt T_uint64 v11)) fun v12 =>
 CallsH PG id_carrackref15_Table_Drop #[t0, v8, v12] h2 fun v13 h14 =>
 R v13 h14)
 (popO (SemP PG (Instr.fieldAt T_carrackref15_Act (Value.pointer (some ⟨r1, 0, none⟩)) 1)) fun v15 =>
 popO (SemE PG h2 (Instr.loadAt T_api_Note v15)) fun v16 =>
 CallsH PG id_carrackref15_Table_Apply #[t0, v16] h2 fun v17 h18 =>
 R v17 h18)
def carrackref15_Table_Act.ann : Ann := { b := fun i => match i with  | _ => #[], ord := fun i => match i with  | _ => [], keep := fun i => match i with  | _ => [], n := 21 }
theorem carrackref15_Table_Act.eq (t0 : Value) (t1 : Value) (h0 : PH) (R : Value → PH → Prop) : codeF PG carrackref15_Table_Act.ann 200 (bodyOf Try.f23) (endH PG Try.f23 R) (fun t => (#[t0, t1] : Array Value).getD t undef) h0 = carrackref15_Table_Act t0 t1 h0 R := by kernel_rfl
theorem carrackref15_Table_Act.call {t0 : Value} {t1 : Value} {h0 : PH} {R : Value → PH → Prop} (H : carrackref15_Table_Act t0 t1 h0 R) : CallsH PG id_carrackref15_Table_Act #[t0, t1] h0 R :=
  callsF_by carrackref15_Table_Act.ann 200 mix Try.func23 (by kernel_rfl) (by kernel_rfl) (by kernel_rfl) (by kernel_rfl) (by simp [Try.ntmps23]) (carrackref15_Table_Act.eq t0 t1 h0 R) H

def carrackref15_Table_Drop (t0 : Value) (t1 : Value) (t2 : Value) (h0 : PH) (R : Value → PH → Prop) : Prop :=
 CallsH PG id_carrackref15_Table_place #[t0, t1, t2] h0 fun v1 h2 =>
 popO (SemP PG (Instr.extract v1 0)) fun v3 =>
 popO (SemP PG (Instr.extract v1 1)) fun v4 =>
 popO (SemP PG (Op.unary UnOp.not v4)) fun v5 =>
 condV v5
 (R (Value.int IntKind.i64 3) h2)
 (popO (SemP PG (nilS t0)) fun v6 =>
 popO (SemP PG (Instr.fieldAt T_carrackref15_Table v6 0)) fun v7 =>
 popO (SemE PG h2 (Instr.loadAt T_sl_api_Item v7)) fun v8 =>
 popO (SemP PG (Instr.sliceAt T_sl_api_Item v8 none (some v3) none)) fun v9 =>
 popO (SemP PG (nilS t0)) fun v10 =>
 popO (SemP PG (Instr.fieldAt T_carrackref15_Table v10 0)) fun v11 =>
 popO (SemE PG h2 (Instr.loadAt T_sl_api_Item v11)) fun v12 =>
 popO (SemP PG (binOp BinOp.add T_int v3 (Value.int IntKind.i64 1))) fun v13 =>
 popO (SemP PG (Instr.sliceAt T_sl_api_Item v12 (some v13) none none)) fun v14 =>
 popO (SemA PG (Instr.buildSlice T_sl_api_Item 0 #[])) fun x16 => ∀ r15, h2 r15 = none → popO (SemP PG (x16.2 r15)) fun v17 => bindH (PH.set h2 r15 x16.1) fun h18 =>
 SemH PG (Builtin.append_ #[T_sl_api_Item, T_sl_api_Item] T_sl_api_Item #[v17, v9]) h18 fun v19 h20 =>
 SemE PG h20 (Instr.loadAt T_sl_api_Item v11) = some v12 ∧ (SemH PG (Builtin.append_ #[T_sl_api_Item, T_sl_api_Item] T_sl_api_Item #[v19, v14]) h20 fun v21 h22 =>
 (popO (SemP PG (nilS t0)) fun v23 =>
 popO (SemP PG (Instr.fieldAt T_carrackref15_Table v23 0)) fun v24 =>
 SemH PG (storeS T_sl_api_Item v24 v21) h22 fun v25 h26 =>
 (R (Value.int IntKind.i64 0) h26))))
def carrackref15_Table_Drop.ann : Ann := { b := fun i => match i with | 4 => #[0, 0, 0, 4, 12, 28, 0, 124, 254, 0, 512, 1536, 3584, 0, 8192, 32256, 65534, 131071, 262143, 524287] | _ => #[], ord := fun i => match i with | 4 => [0, 2, 3, 4, 5, 6, 7, 9, 10, 11, 12, 13, 14, 15, 1, 8, 16, 17, 18, 19] | _ => [], keep := fun i => match i with  | _ => [], n := 37 }
theorem carrackref15_Table_Drop.eq (t0 : Value) (t1 : Value) (t2 : Value) (h0 : PH) (R : Value → PH → Prop) : codeF PG carrackref15_Table_Drop.ann 200 (bodyOf Try.f44) (endH PG Try.f44 R) (fun t => (#[t0, t1, t2] : Array Value).getD t undef) h0 = carrackref15_Table_Drop t0 t1 t2 h0 R := by kernel_rfl
theorem carrackref15_Table_Drop.call {t0 : Value} {t1 : Value} {t2 : Value} {h0 : PH} {R : Value → PH → Prop} (H : carrackref15_Table_Drop t0 t1 t2 h0 R) : CallsH PG id_carrackref15_Table_Drop #[t0, t1, t2] h0 R :=
  callsF_by carrackref15_Table_Drop.ann 200 mix Try.func44 (by kernel_rfl) (by kernel_rfl) (by kernel_rfl) (by kernel_rfl) (by simp [Try.ntmps44]) (carrackref15_Table_Drop.eq t0 t1 t2 h0 R) H

def carrackref15_Table_Apply_k70 (R : Value → PH → Prop) (h0 : PH) : Prop :=
 R (Value.int IntKind.i64 0) h0
def carrackref15_Table_Apply_k69 (R : Value → PH → Prop) (h0 : PH) : Prop :=
 carrackref15_Table_Apply_k70 R h0
def carrackref15_Table_Apply (t0 : Value) (t1 : Value) (h0 : PH) (R : Value → PH → Prop) : Prop :=
 ∀ r1, h0 r1 = none → bindH (PH.set h0 r1 (.cells (Value.cells t1) T_api_Note)) fun h2 =>
 popO (SemE PG h2 (Instr.loadAt T_api_Note (Value.pointer (some ⟨r1, 0, none⟩)))) fun v3 =>
 CallsH PG id_carrackref14_Right #[v3] h2 fun v4 h5 =>
 popO (SemP PG (Op.unary UnOp.not v4)) fun v6 =>
 condV v6
 (R (Value.int IntKind.i64 1) h5)
 (popO (SemP PG (Instr.fieldAt T_api_Note (Value.pointer (some ⟨r1, 0, none⟩)) 1)) fun v7 =>
 popO (SemP PG (Instr.fieldAt T_api_Packet v7 0)) fun v8 =>
 popO (SemE PG h5 (Instr.loadAt T_int v8)) fun v9 =>
 popO (SemP PG (Instr.fieldAt T_api_Note (Value.pointer (some ⟨r1, 0, none⟩)) 1)) fun v10 =>
 popO (SemP PG (Instr.fieldAt T_api_Packet v10 1)) fun v11 =>
 popO (SemE PG h5 (Instr.loadAt T_uint64 v11)) fun v12 =>
 CallsH PG id_carrackref15_Table_place #[t0, v9, v12] h5 fun v13 h14 =>
 popO (SemP PG (Instr.extract v13 0)) fun v15 =>
 popO (SemP PG (Instr.extract v13 1)) fun v16 =>
 popO (SemP PG (Instr.fieldAt T_api_Note (Value.pointer (some ⟨r1, 0, none⟩)) 0)) fun v17 =>
 popO (SemE PG h14 (Instr.loadAt T_int v17)) fun v18 =>
 popO (SemE PG h14 (binS BinOp.eql T_int (.tmp 24) (.const (Value.int IntKind.i64 1)) v18 (Value.int IntKind.i64 1))) fun v19 =>
 gopV (yV v19) true (fun k22 => k22 v16 h14) h14 fun v20 h21 =>
 gopV (yV v19) true (fun k25 => popO (SemP PG (Op.unary UnOp.not v20)) fun v26 => k25 v26 h21) h21 fun v23 h24 =>
 popO (pickV v19 v23 (Value.bool false)) fun v27 =>
 condV v27
 (popO (SemP PG (Instr.fieldAt T_api_Note (Value.pointer (some ⟨r1, 0, none⟩)) 1)) fun v28 =>
 popO (SemE PG h24 (Instr.loadAt T_api_Packet v28)) fun v29 =>
 popO (SemP PG (Instr.build T_api_Item #[(0, v29), (1, (Value.int IntKind.i64 1))])) fun v30 =>
 CallsH PG id_carrackref15_Table_put #[t0, v30] h24 fun v31 h32 =>
 R v31 h32)
 (popO (SemP PG (Instr.fieldAt T_api_Note (Value.pointer (some ⟨r1, 0, none⟩)) 0)) fun v33 =>
 popO (SemE PG h24 (Instr.loadAt T_int v33)) fun v34 =>
 popO (SemE PG h24 (binS BinOp.eql T_int (.tmp 37) (.const (Value.int IntKind.i64 2)) v34 (Value.int IntKind.i64 2))) fun v35 =>
 gopV (yV v35) true (fun k38 => k38 v16 h24) h24 fun v36 h37 =>
 gopV (yV v35) true (fun k41 => popO (SemP PG (Op.unary UnOp.not v36)) fun v42 => k41 v42 h37) h37 fun v39 h40 =>
 popO (pickV v35 v39 (Value.bool false)) fun v43 =>
 condV v43
 (popO (SemP PG (Instr.fieldAt T_api_Note (Value.pointer (some ⟨r1, 0, none⟩)) 1)) fun v44 =>
 popO (SemE PG h40 (Instr.loadAt T_api_Packet v44)) fun v45 =>
 popO (SemP PG (Instr.build T_api_Item #[(0, v45), (1, (Value.int IntKind.i64 2))])) fun v46 =>
 CallsH PG id_carrackref15_Table_put #[t0, v46] h40 fun v47 h48 =>
 R v47 h48)
 (popO (SemP PG (Instr.fieldAt T_api_Note (Value.pointer (some ⟨r1, 0, none⟩)) 0)) fun v49 =>
 popO (SemE PG h40 (Instr.loadAt T_int v49)) fun v50 =>
 popO (SemE PG h40 (binS BinOp.eql T_int (.tmp 50) (.const (Value.int IntKind.i64 2)) v50 (Value.int IntKind.i64 2))) fun v51 =>
 condV v51
 (popO (SemA PG (Instr.buildSlice T_sl_api_Item 0 #[])) fun x53 => ∀ r52, h40 r52 = none → popO (SemP PG (x53.2 r52)) fun v54 => bindH (PH.set h40 r52 x53.1) fun h55 =>
 popO (SemP PG (nilS t0)) fun v56 =>
 popO (SemP PG (Instr.fieldAt T_carrackref15_Table v56 0)) fun v57 =>
 popO (SemE PG h55 (Instr.loadAt T_sl_api_Item v57)) fun v58 =>
 SemH PG (Builtin.append_ #[T_sl_api_Item, T_sl_api_Item] T_sl_api_Item #[v54, v58]) h55 fun v59 h60 =>
 popO (SemP PG (Instr.indexAt T_sl_api_Item v59 v15)) fun v61 =>
 popO (SemP PG (Instr.fieldAt T_api_Item v61 1)) fun v62 =>
 SemH PG (storeS T_int v62 (Value.int IntKind.i64 2)) h60 fun v63 h64 =>
 popO (SemP PG (nilS t0)) fun v65 =>
 popO (SemP PG (Instr.fieldAt T_carrackref15_Table v65 0)) fun v66 =>
 SemH PG (storeS T_sl_api_Item v66 v59) h64 fun v67 h68 =>
 carrackref15_Table_Apply_k69 R h68)
 (popO (SemP PG (Instr.fieldAt T_api_Note (Value.pointer (some ⟨r1, 0, none⟩)) 0)) fun v71 =>
 popO (SemE PG h40 (Instr.loadAt T_int v71)) fun v72 =>
 popO (SemP PG (binOp BinOp.gtr T_int v72 (Value.int IntKind.i64 2))) fun v73 =>
 gopV (yV v73) true (fun k76 => k76 v16 h40) h40 fun v74 h75 =>
 popO (pickV v73 v74 (Value.bool false)) fun v77 =>
 condV v77
 (popO (SemP PG (nilS t0)) fun v78 =>
 popO (SemP PG (Instr.fieldAt T_carrackref15_Table v78 0)) fun v79 =>
 popO (SemE PG h75 (Instr.loadAt T_sl_api_Item v79)) fun v80 =>
 popO (SemP PG (Instr.sliceAt T_sl_api_Item v80 none (some v15) none)) fun v81 =>
 popO (SemP PG (nilS t0)) fun v82 =>
 popO (SemP PG (Instr.fieldAt T_carrackref15_Table v82 0)) fun v83 =>
 popO (SemE PG h75 (Instr.loadAt T_sl_api_Item v83)) fun v84 =>
 popO (SemP PG (binOp BinOp.add T_int v15 (Value.int IntKind.i64 1))) fun v85 =>
 popO (SemP PG (Instr.sliceAt T_sl_api_Item v84 (some v85) none none)) fun v86 =>
 popO (SemA PG (Instr.buildSlice T_sl_api_Item 0 #[])) fun x88 => ∀ r87, h75 r87 = none → popO (SemP PG (x88.2 r87)) fun v89 => bindH (PH.set h75 r87 x88.1) fun h90 =>
 SemH PG (Builtin.append_ #[T_sl_api_Item, T_sl_api_Item] T_sl_api_Item #[v89, v81]) h90 fun v91 h92 =>
 SemE PG h92 (Instr.loadAt T_sl_api_Item v83) = some v84 ∧ (SemH PG (Builtin.append_ #[T_sl_api_Item, T_sl_api_Item] T_sl_api_Item #[v91, v86]) h92 fun v93 h94 =>
 (popO (SemP PG (nilS t0)) fun v95 =>
 popO (SemP PG (Instr.fieldAt T_carrackref15_Table v95 0)) fun v96 =>
 SemH PG (storeS T_sl_api_Item v96 v93) h94 fun v97 h98 =>
 (carrackref15_Table_Apply_k69 R h98))))
 (carrackref15_Table_Apply_k69 R h75)))))
def carrackref15_Table_Apply.ann : Ann := { b := fun i => match i with | 13 => #[0, 0, 0, 4, 12, 28, 0, 124, 254, 0, 512, 1536, 3584, 0, 8192, 32256, 65534, 131071, 262143, 524287] | _ => #[], ord := fun i => match i with | 13 => [0, 2, 3, 4, 5, 6, 7, 9, 10, 11, 12, 13, 14, 15, 1, 8, 16, 17, 18, 19] | _ => [], keep := fun i => match i with  | _ => [], n := 92 }
theorem carrackref15_Table_Apply.eq (t0 : Value) (t1 : Value) (h0 : PH) (R : Value → PH → Prop) : codeF PG carrackref15_Table_Apply.ann 200 (bodyOf Try.f45) (endH PG Try.f45 R) (fun t => (#[t0, t1] : Array Value).getD t undef) h0 = carrackref15_Table_Apply t0 t1 h0 R := by kernel_rfl
theorem carrackref15_Table_Apply.call {t0 : Value} {t1 : Value} {h0 : PH} {R : Value → PH → Prop} (H : carrackref15_Table_Apply t0 t1 h0 R) : CallsH PG id_carrackref15_Table_Apply #[t0, t1] h0 R :=
  callsF_by carrackref15_Table_Apply.ann 200 mix Try.func45 (by kernel_rfl) (by kernel_rfl) (by kernel_rfl) (by kernel_rfl) (by simp [Try.ntmps45]) (carrackref15_Table_Apply.eq t0 t1 h0 R) H

def carrackref14_Right (t0 : Value) (h0 : PH) (R : Value → PH → Prop) : Prop :=
 ∀ r1, h0 r1 = none → bindH (PH.set h0 r1 (.cells (Value.cells t0) T_api_Note)) fun h2 =>
 popO (SemP PG (Instr.fieldAt T_api_Note (Value.pointer (some ⟨r1, 0, none⟩)) 0)) fun v3 =>
 popO (SemE PG h2 (Instr.loadAt T_int v3)) fun v4 =>
 popO (SemP PG (binOp BinOp.geq T_int v4 (Value.int IntKind.i64 1))) fun v5 =>
 gopV (yV v5) true (fun k8 => popO (SemP PG (Instr.fieldAt T_api_Note (Value.pointer (some ⟨r1, 0, none⟩)) 0)) fun v9 => k8 v9 h2) h2 fun v6 h7 =>
 gopV (yV v5) true (fun k12 => popO (SemE PG h7 (Instr.loadAt T_int v6)) fun v13 => k12 v13 h7) h7 fun v10 h11 =>
 gopV (yV v5) true (fun k16 => popO (SemP PG (binOp BinOp.leq T_int v10 (Value.int IntKind.i64 4))) fun v17 => k16 v17 h11) h11 fun v14 h15 =>
 popO (pickV v5 v14 (Value.bool false)) fun v18 =>
 gopV (yV v18) true (fun k21 => popO (SemP PG (Instr.fieldAt T_api_Note (Value.pointer (some ⟨r1, 0, none⟩)) 1)) fun v22 => k21 v22 h15) h15 fun v19 h20 =>
 gopV (yV v18) true (fun k25 => popO (SemE PG h20 (Instr.loadAt T_api_Packet v19)) fun v26 => k25 v26 h20) h20 fun v23 h24 =>
 gopV (yV v18) true (fun k29 => CallsH PG id_carrackref10_Right #[v23] h24 fun v30 h31 => k29 v30 h31) h24 fun v27 h28 =>
 popO (pickV v18 v27 (Value.bool false)) fun v32 =>
 R v32 h28
def carrackref14_Right.ann : Ann := { b := fun i => match i with  | _ => #[], ord := fun i => match i with  | _ => [], keep := fun i => match i with  | _ => [], n := 16 }
theorem carrackref14_Right.eq (t0 : Value) (h0 : PH) (R : Value → PH → Prop) : codeF PG carrackref14_Right.ann 200 (bodyOf Try.f56) (endH PG Try.f56 R) (fun t => (#[t0] : Array Value).getD t undef) h0 = carrackref14_Right t0 h0 R := by kernel_rfl
theorem carrackref14_Right.call {t0 : Value} {h0 : PH} {R : Value → PH → Prop} (H : carrackref14_Right t0 h0 R) : CallsH PG id_carrackref14_Right #[t0] h0 R :=
  callsF_by carrackref14_Right.ann 200 mix Try.func56 (by kernel_rfl) (by kernel_rfl) (by kernel_rfl) (by kernel_rfl) (by simp [Try.ntmps56]) (carrackref14_Right.eq t0 h0 R) H

def carrackref15_Table_Get (t0 : Value) (t1 : Value) (t2 : Value) (h0 : PH) (R : Value → PH → Prop) : Prop :=
 ∀ r1, h0 r1 = none → bindH (PH.set h0 r1 (.cells (zcells PG T_api_Item) T_api_Item)) fun h2 =>
 CallsH PG id_carrackref15_Table_place #[t0, t1, t2] h2 fun v3 h4 =>
 popO (SemP PG (Instr.extract v3 0)) fun v5 =>
 popO (SemP PG (Instr.extract v3 1)) fun v6 =>
 popO (SemP PG (Op.unary UnOp.not v6)) fun v7 =>
 condV v7
 (popO (SemP PG (Instr.build T_api_Item #[])) fun v8 =>
 SemH PG (storeS T_api_Item (Value.pointer (some ⟨r1, 0, none⟩)) v8) h4 fun v9 h10 =>
 popO (SemE PG h10 (Instr.loadAt T_api_Item (Value.pointer (some ⟨r1, 0, none⟩)))) fun v11 =>
 R (Value.tuple #[v11, (Value.bool false)]) h10)
 (popO (SemP PG (nilS t0)) fun v12 =>
 popO (SemP PG (Instr.fieldAt T_carrackref15_Table v12 0)) fun v13 =>
 popO (SemE PG h4 (Instr.loadAt T_sl_api_Item v13)) fun v14 =>
 popO (SemP PG (Instr.indexAt T_sl_api_Item v14 v5)) fun v15 =>
 popO (SemE PG h4 (Instr.loadAt T_api_Item v15)) fun v16 =>
 SemH PG (storeS T_api_Item (Value.pointer (some ⟨r1, 0, none⟩)) v16) h4 fun v17 h18 =>
 popO (SemE PG h18 (Instr.loadAt T_api_Item (Value.pointer (some ⟨r1, 0, none⟩)))) fun v19 =>
 R (Value.tuple #[v19, (Value.bool true)]) h18)
def carrackref15_Table_Get.ann : Ann := { b := fun i => match i with  | _ => #[], ord := fun i => match i with  | _ => [], keep := fun i => match i with  | _ => [], n := 27 }
theorem carrackref15_Table_Get.eq (t0 : Value) (t1 : Value) (t2 : Value) (h0 : PH) (R : Value → PH → Prop) : codeF PG carrackref15_Table_Get.ann 200 (bodyOf Try.f24) (endH PG Try.f24 R) (fun t => (#[t0, t1, t2] : Array Value).getD t undef) h0 = carrackref15_Table_Get t0 t1 t2 h0 R := by kernel_rfl
theorem carrackref15_Table_Get.call {t0 : Value} {t1 : Value} {t2 : Value} {h0 : PH} {R : Value → PH → Prop} (H : carrackref15_Table_Get t0 t1 t2 h0 R) : CallsH PG id_carrackref15_Table_Get #[t0, t1, t2] h0 R :=
  callsF_by carrackref15_Table_Get.ann 200 mix Try.func24 (by kernel_rfl) (by kernel_rfl) (by kernel_rfl) (by kernel_rfl) (by simp [Try.ntmps24]) (carrackref15_Table_Get.eq t0 t1 t2 h0 R) H

def carrackref15_Table_Fit_b4 (R : Value → PH → Prop) (n3 : List Value → PH → Prop) (t1 : Value) (t5 : Value) (t6 : Value) (h0 : PH) : Prop :=
 popO (SemP PG (Builtin.len_ #[T_sl_api_Note] T_int #[t1])) fun v5 =>
 popO (SemP PG (binOp BinOp.lss T_int t6 v5)) fun v6 =>
 condV v6
 (popO (SemP PG (Instr.indexAt T_sl_api_Note t1 t6)) fun v7 =>
 popO (SemE PG h0 (Instr.loadAt T_api_Note v7)) fun v8 =>
 CallsH PG id_carrackref15_Table_Apply #[t5, v8] h0 fun v9 h10 =>
 popO (SemE PG h10 (binS BinOp.neq T_int (.tmp 20) (.const (Value.int IntKind.i64 0)) v9 (Value.int IntKind.i64 0))) fun v11 =>
 condV v11
 (R t6 h10)
 (popO (SemP PG (binOp BinOp.add T_int t6 (Value.int IntKind.i64 1))) fun v12 =>
 n3 [t1, t5, v12] h10))
 (popO (SemP PG (Builtin.len_ #[T_sl_api_Note] T_int #[t1])) fun v13 =>
 R v13 h0)
def carrackref15_Table_Fit (t0 : Value) (t1 : Value) (h0 : PH) (R : Value → PH → Prop) : Prop :=
 CallsH PG id_carrackref15_Table_Copy #[t0] h0 fun v1 h2 =>
 LoopL [1, 5, 6] (fun n3 ρ h => carrackref15_Table_Fit_b4 R n3 (ρ 1) (ρ 5) (ρ 6) h) [t1, v1, (Value.int IntKind.i64 0)] h2
def carrackref15_Table_Fit.ann : Ann := { b := fun i => match i with  | _ => #[], ord := fun i => match i with  | _ => [], keep := fun i => match i with | 3 => [1, 5, 6] | _ => [], n := 25 }
theorem carrackref15_Table_Fit.eq (t0 : Value) (t1 : Value) (h0 : PH) (R : Value → PH → Prop) : codeF PG carrackref15_Table_Fit.ann 200 (bodyOf Try.f25) (endH PG Try.f25 R) (fun t => (#[t0, t1] : Array Value).getD t undef) h0 = carrackref15_Table_Fit t0 t1 h0 R := by kernel_rfl
theorem carrackref15_Table_Fit.call {t0 : Value} {t1 : Value} {h0 : PH} {R : Value → PH → Prop} (H : carrackref15_Table_Fit t0 t1 h0 R) : CallsH PG id_carrackref15_Table_Fit #[t0, t1] h0 R :=
  callsF_by carrackref15_Table_Fit.ann 200 mix Try.func25 (by kernel_rfl) (by kernel_rfl) (by kernel_rfl) (by kernel_rfl) (by simp [Try.ntmps25]) (carrackref15_Table_Fit.eq t0 t1 h0 R) H

def carrackref15_Table_Copy (t0 : Value) (h0 : PH) (R : Value → PH → Prop) : Prop :=
 popO (SemP PG (nilS t0)) fun v1 =>
 popO (SemP PG (Instr.fieldAt T_carrackref15_Table v1 0)) fun v2 =>
 popO (SemE PG h0 (Instr.loadAt T_sl_api_Item v2)) fun v3 =>
 popO (SemP PG (nilS t0)) fun v4 =>
 popO (SemP PG (Instr.fieldAt T_carrackref15_Table v4 1)) fun v5 =>
 popO (SemE PG h0 (Instr.loadAt T_int v5)) fun v6 =>
 popO (SemA PG (Instr.buildSlice T_sl_api_Item 0 #[])) fun x8 => ∀ r7, h0 r7 = none → popO (SemP PG (x8.2 r7)) fun v9 => bindH (PH.set h0 r7 x8.1) fun h10 =>
 SemH PG (Builtin.append_ #[T_sl_api_Item, T_sl_api_Item] T_sl_api_Item #[v9, v3]) h10 fun v11 h12 =>
 SemE PG h12 (Instr.loadAt T_int v5) = some v6 ∧ (popO (SemP PG (Instr.build T_carrackref15_Table #[(0, v11), (1, v6)])) fun v13 =>
 ∀ r14, h12 r14 = none → bindH (PH.set h12 r14 (.cells (Value.cells v13) T_carrackref15_Table)) fun h15 =>
 R (Value.pointer (some ⟨r14, 0, none⟩)) h15)
def carrackref15_Table_Copy.ann : Ann := { b := fun i => match i with | 1 => #[0, 0, 2, 6, 14, 31, 0, 64, 192, 448, 1023, 2047, 4095] | _ => #[], ord := fun i => match i with | 1 => [1, 2, 3, 4, 6, 7, 8, 9, 0, 5, 10, 11, 12] | _ => [], keep := fun i => match i with  | _ => [], n := 15 }
theorem carrackref15_Table_Copy.eq (t0 : Value) (h0 : PH) (R : Value → PH → Prop) : codeF PG carrackref15_Table_Copy.ann 200 (bodyOf Try.f46) (endH PG Try.f46 R) (fun t => (#[t0] : Array Value).getD t undef) h0 = carrackref15_Table_Copy t0 h0 R := by kernel_rfl
theorem carrackref15_Table_Copy.call {t0 : Value} {h0 : PH} {R : Value → PH → Prop} (H : carrackref15_Table_Copy t0 h0 R) : CallsH PG id_carrackref15_Table_Copy #[t0] h0 R :=
  callsF_by carrackref15_Table_Copy.ann 200 mix Try.func46 (by kernel_rfl) (by kernel_rfl) (by kernel_rfl) (by kernel_rfl) (by simp [Try.ntmps46]) (carrackref15_Table_Copy.eq t0 h0 R) H

def table_Table_Room (t0 : Value) (h0 : PH) (R : Value → PH → Prop) : Prop :=
 popO (SemP PG (nilS t0)) fun v1 =>
 popO (SemP PG (Instr.fieldAt T_table_Table v1 1)) fun v2 =>
 popO (SemE PG h0 (Instr.loadAt T_int v2)) fun v3 =>
 R v3 h0
def table_Table_Room.ann : Ann := { b := fun i => match i with  | _ => #[], ord := fun i => match i with  | _ => [], keep := fun i => match i with  | _ => [], n := 7 }
theorem table_Table_Room.eq (t0 : Value) (h0 : PH) (R : Value → PH → Prop) : codeF PG table_Table_Room.ann 200 (bodyOf Try.f26) (endH PG Try.f26 R) (fun t => (#[t0] : Array Value).getD t undef) h0 = table_Table_Room t0 h0 R := by kernel_rfl
theorem table_Table_Room.call {t0 : Value} {h0 : PH} {R : Value → PH → Prop} (H : table_Table_Room t0 h0 R) : CallsH PG id_table_Table_Room #[t0] h0 R :=
  callsF_by table_Table_Room.ann 200 mix Try.func26 (by kernel_rfl) (by kernel_rfl) (by kernel_rfl) (by kernel_rfl) (by simp [Try.ntmps26]) (table_Table_Room.eq t0 h0 R) H

def carracklaw15_TableSame_b62 (R : Value → PH → Prop) (n61 : List Value → PH → Prop) (t0 : Value) (t1 : Value) (t5 : Value) (t7 : Value) (t9 : Value) (h0 : PH) : Prop :=
 popO (SemP PG (Builtin.len_ #[T_sl_carrackref15_Act] T_int #[t1])) fun v63 =>
 popO (SemP PG (binOp BinOp.lss T_int t9 v63)) fun v64 =>
 condV v64
 (popO (SemP PG (Instr.indexAt T_sl_carrackref15_Act t1 t9)) fun v65 =>
 popO (SemE PG h0 (Instr.loadAt T_carrackref15_Act v65)) fun v66 =>
 CallsH PG id_carracklaw15_do #[t7, v66] h0 fun v67 h68 =>
 popO (SemP PG (binOp BinOp.add T_int t9 (Value.int IntKind.i64 1))) fun v69 =>
 n61 [t0, t1, t5, t7, v69] h68)
 (CallsH PG id_table_Table_Items #[t7] h0 fun v70 h71 =>
 CallsH PG id_table_Of #[t0, v70] h71 fun v72 h73 =>
 popO (SemP PG (Instr.extract v72 0)) fun v74 =>
 popO (SemP PG (Instr.extract v72 1)) fun v75 =>
 popO (SemE PG h73 (binS BinOp.neq T_api_Errno (.tmp 62) (.const (Value.int IntKind.i64 0)) v75 (Value.int IntKind.i64 0))) fun v76 =>
 gopV (yV v76) false (fun k79 => k79 v74 h73) h73 fun v77 h78 =>
 gopV (yV v76) false (fun k82 => popO (SemE PG h78 (binS BinOp.eql T_p_table_Table (.tmp 65) (.const (Value.pointer none)) v77 (Value.pointer none))) fun v83 => k82 v83 h78) h78 fun v80 h81 =>
 popO (pickV v76 (Value.bool true) v80) fun v84 =>
 gopV (yV v84) false (fun k87 => k87 v74 h81) h81 fun v85 h86 =>
 gopV (yV v84) false (fun k90 => CallsH PG id_table_Table_Items #[v85] h86 fun v91 h92 => k90 v91 h92) h86 fun v88 h89 =>
 gopV (yV v84) false (fun k95 => k95 t7 h89) h89 fun v93 h94 =>
 gopV (yV v84) false (fun k98 => CallsH PG id_table_Table_Items #[v93] h94 fun v99 h100 => k98 v99 h100) h94 fun v96 h97 =>
 gopV (yV v84) false (fun k103 => CallsH PG id_carrackref14_SameItems #[v88, v96] h97 fun v104 h105 => k103 v104 h105) h97 fun v101 h102 =>
 gopV (yV v84) false (fun k108 => popO (SemP PG (Op.unary UnOp.not v101)) fun v109 => k108 v109 h102) h102 fun v106 h107 =>
 popO (pickV v84 (Value.bool true) v106) fun v110 =>
 condV v110
 (R (Value.bool false) h107)
 (popO (SemE PG h107 (Instr.loadAt T_api_Note t5)) fun v111 =>
 CallsH PG id_table_Table_Apply #[t7, v111] h107 fun v112 h113 =>
 popO (SemE PG h113 (binS BinOp.neq T_api_Errno (.tmp 78) (.const (Value.int IntKind.i64 0)) v112 (Value.int IntKind.i64 0))) fun v114 =>
 condV v114
 (popO (SemE PG h113 (Instr.loadAt T_api_Note t5)) fun v115 =>
 CallsH PG id_table_Table_Apply #[v74, v115] h113 fun v116 h117 =>
 popO (SemE PG h117 (binS BinOp.neq T_api_Errno (.tmp 82) (.const (Value.int IntKind.i64 0)) v116 (Value.int IntKind.i64 0))) fun v118 =>
 gopV (yV v118) true (fun k121 => k121 v74 h117) h117 fun v119 h120 =>
 gopV (yV v118) true (fun k124 => CallsH PG id_table_Table_Items #[v119] h120 fun v125 h126 => k124 v125 h126) h120 fun v122 h123 =>
 gopV (yV v118) true (fun k129 => k129 t7 h123) h123 fun v127 h128 =>
 gopV (yV v118) true (fun k132 => CallsH PG id_table_Table_Items #[v127] h128 fun v133 h134 => k132 v133 h134) h128 fun v130 h131 =>
 gopV (yV v118) true (fun k137 => CallsH PG id_carrackref14_SameItems #[v122, v130] h131 fun v138 h139 => k137 v138 h139) h131 fun v135 h136 =>
 popO (pickV v118 v135 (Value.bool false)) fun v140 =>
 R v140 h136)
 (CallsH PG id_table_Table_Items #[t7] h113 fun v141 h142 =>
 popO (SemE PG h142 (Instr.loadAt T_api_Note t5)) fun v143 =>
 CallsH PG id_table_Table_Apply #[t7, v143] h142 fun v144 h145 =>
 popO (SemE PG h145 (binS BinOp.eql T_api_Errno (.tmp 95) (.const (Value.int IntKind.i64 0)) v144 (Value.int IntKind.i64 0))) fun v146 =>
 gopV (yV v146) true (fun k149 => k149 t7 h145) h145 fun v147 h148 =>
 gopV (yV v146) true (fun k152 => CallsH PG id_table_Table_Items #[v147] h148 fun v153 h154 => k152 v153 h154) h148 fun v150 h151 =>
 gopV (yV v146) true (fun k157 => k157 v141 h151) h151 fun v155 h156 =>
 gopV (yV v146) true (fun k160 => CallsH PG id_carrackref14_SameItems #[v150, v155] h156 fun v161 h162 => k160 v161 h162) h156 fun v158 h159 =>
 popO (pickV v146 v158 (Value.bool false)) fun v163 =>
 gopV (yV v163) true (fun k166 => k166 v74 h159) h159 fun v164 h165 =>
 gopV (yV v163) true (fun k169 => popO (SemE PG h165 (Instr.loadAt T_api_Note t5)) fun v170 => k169 v170 h165) h165 fun v167 h168 =>
 gopV (yV v163) true (fun k173 => CallsH PG id_table_Table_Apply #[v164, v167] h168 fun v174 h175 => k173 v174 h175) h168 fun v171 h172 =>
 gopV (yV v163) true (fun k178 => popO (SemE PG h172 (binS BinOp.eql T_api_Errno (.tmp 106) (.const (Value.int IntKind.i64 0)) v171 (Value.int IntKind.i64 0))) fun v179 => k178 v179 h172) h172 fun v176 h177 =>
 popO (pickV v163 v176 (Value.bool false)) fun v180 =>
 gopV (yV v180) true (fun k183 => k183 v74 h177) h177 fun v181 h182 =>
 gopV (yV v180) true (fun k186 => CallsH PG id_table_Table_Items #[v181] h182 fun v187 h188 => k186 v187 h188) h182 fun v184 h185 =>
 gopV (yV v180) true (fun k191 => k191 v141 h185) h185 fun v189 h190 =>
 gopV (yV v180) true (fun k194 => CallsH PG id_carrackref14_SameItems #[v184, v189] h190 fun v195 h196 => k194 v195 h196) h190 fun v192 h193 =>
 popO (pickV v180 v192 (Value.bool false)) fun v197 =>
 R v197 h193)))
def carracklaw15_TableSame (t0 : Value) (t1 : Value) (t2 : Value) (h0 : PH) (R : Value → PH → Prop) : Prop :=
 ∀ r1, h0 r1 = none → bindH (PH.set h0 r1 (.cells (Value.cells t2) T_api_Note)) fun h2 =>
 CallsH PG id_carracklaw15_awake #[] h2 fun v3 h4 =>
 popO (SemP PG (Op.unary UnOp.not v3)) fun v5 =>
 condV v5
 (R (Value.bool false) h4)
 (popO (SemP PG (Builtin.len_ #[T_sl_carrackref15_Act] T_int #[t1])) fun v6 =>
 popO (SemP PG (binOp BinOp.gtr T_int v6 (Value.int IntKind.i64 100))) fun v7 =>
 gopV (yV v7) false (fun k10 => k10 t1 h4) h4 fun v8 h9 =>
 gopV (yV v7) false (fun k13 => CallsH PG id_carracklaw15_notes #[v8] h9 fun v14 h15 => k13 v14 h15) h9 fun v11 h12 =>
 gopV (yV v7) false (fun k18 => CallsH PG id_carracklaw15_few #[v11] h12 fun v19 h20 => k18 v19 h20) h12 fun v16 h17 =>
 gopV (yV v7) false (fun k23 => popO (SemP PG (Op.unary UnOp.not v16)) fun v24 => k23 v24 h17) h17 fun v21 h22 =>
 popO (pickV v7 (Value.bool true) v21) fun v25 =>
 gopV (yV v25) false (fun k28 => popO (SemE PG h22 (Instr.loadAt T_api_Note (Value.pointer (some ⟨r1, 0, none⟩)))) fun v29 => k28 v29 h22) h22 fun v26 h27 =>
 gopV (yV v25) false (fun k32 => popO (SemA PG (Instr.buildSlice T_sl_api_Note 1 #[(0, v26)])) fun x34 => ∀ r33, h27 r33 = none → popO (SemP PG (x34.2 r33)) fun v35 => bindH (PH.set h27 r33 x34.1) fun h36 => k32 v35 h36) h27 fun v30 h31 =>
 gopV (yV v25) false (fun k39 => CallsH PG id_carracklaw15_few #[v30] h31 fun v40 h41 => k39 v40 h41) h31 fun v37 h38 =>
 gopV (yV v25) false (fun k44 => popO (SemP PG (Op.unary UnOp.not v37)) fun v45 => k44 v45 h38) h38 fun v42 h43 =>
 popO (pickV v25 (Value.bool true) v42) fun v46 =>
 condV v46
 (R (Value.bool true) h43)
 (CallsH PG id_table_New #[t0] h43 fun v47 h48 =>
 popO (SemP PG (Instr.extract v47 0)) fun v49 =>
 popO (SemP PG (Instr.extract v47 1)) fun v50 =>
 popO (SemE PG h48 (binS BinOp.neq T_api_Errno (.tmp 35) (.const (Value.int IntKind.i64 0)) v50 (Value.int IntKind.i64 0))) fun v51 =>
 gopV (yV v51) false (fun k54 => k54 v49 h48) h48 fun v52 h53 =>
 gopV (yV v51) false (fun k57 => popO (SemE PG h53 (binS BinOp.eql T_p_table_Table (.tmp 38) (.const (Value.pointer none)) v52 (Value.pointer none))) fun v58 => k57 v58 h53) h53 fun v55 h56 =>
 popO (pickV v51 (Value.bool true) v55) fun v59 =>
 condV v59
 (popO (SemE PG h56 (binS BinOp.eql T_api_Errno (.tmp 41) (.const (Value.int IntKind.i64 1)) v50 (Value.int IntKind.i64 1))) fun v60 =>
 R v60 h56)
 (LoopL [0, 1, 5, 7, 9] (fun n61 ρ h => carracklaw15_TableSame_b62 R n61 (ρ 0) (ρ 1) (ρ 5) (ρ 7) (ρ 9) h) [t0, t1, (Value.pointer (some ⟨r1, 0, none⟩)), v49, (Value.int IntKind.i64 0)] h56)))
def carracklaw15_TableSame.ann : Ann := { b := fun i => match i with  | _ => #[], ord := fun i => match i with  | _ => [], keep := fun i => match i with | 9 => [0, 1, 5, 7, 9] | _ => [], n := 115 }
theorem carracklaw15_TableSame.eq (t0 : Value) (t1 : Value) (t2 : Value) (h0 : PH) (R : Value → PH → Prop) : codeF PG carracklaw15_TableSame.ann 200 (bodyOf Try.f7) (endH PG Try.f7 R) (fun t => (#[t0, t1, t2] : Array Value).getD t undef) h0 = carracklaw15_TableSame t0 t1 t2 h0 R := by kernel_rfl
theorem carracklaw15_TableSame.call {t0 : Value} {t1 : Value} {t2 : Value} {h0 : PH} {R : Value → PH → Prop} (H : carracklaw15_TableSame t0 t1 t2 h0 R) : CallsH PG id_carracklaw15_TableSame #[t0, t1, t2] h0 R :=
  callsF_by carracklaw15_TableSame.ann 200 mix Try.func7 (by kernel_rfl) (by kernel_rfl) (by kernel_rfl) (by kernel_rfl) (by simp [Try.ntmps7]) (carracklaw15_TableSame.eq t0 t1 t2 h0 R) H

end Go.Proofs.Ytdgcpeinkjnncaa
