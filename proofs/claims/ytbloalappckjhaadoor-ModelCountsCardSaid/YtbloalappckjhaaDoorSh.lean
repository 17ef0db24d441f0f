/- What the functions of this program do on a part of memory, by program (prt.py) out of Lean's own print of them; for each the theorem that its code is that. -/
import Derived.Test.YtbloalappckjhaaDoorTy
set_option maxRecDepth 100000
set_option linter.unusedVariables false
namespace Go.Proofs.YtbloalappckjhaaDoor
open Go
def carracklaw22_ModelOrder (t0 : Value) (t1 : Value) (t2 : Value) (t3 : Value) (h0 : PH) (R : Value → PH → Prop) : Prop :=
 ∀ r1, h0 r1 = none → bindH (PH.set h0 r1 (.cells (Value.cells t0) T_api_Packet)) fun h2 =>
 CallsH PG id_carracklaw22_awake #[] h2 fun v3 h4 =>
 popO (SemP PG (Op.unary UnOp.not v3)) fun v5 =>
 condV v5
 (R (Value.bool false) h4)
 (popO (SemP PG (Instr.makeFunc (Fn.func id_carracklaw22_ModelOrder_1) #[] #[(Value.pointer (some ⟨r1, 0, none⟩))])) fun v6 =>
 callC PG v6 #[t1] h4 fun v7 h8 =>
 callC PG v6 #[t1] h8 fun v9 h10 =>
 CallsH PG id_model_Step #[v7, v9] h10 fun v11 h12 =>
 callC PG (Value.func (Fn.func id_carracklaw22_ModelOrder_2) #[] #[]) #[t1] h12 fun v13 h14 =>
 popO (SemE PG h14 (binS BinOp.neq T_bool (.tmp 20) (.tmp 23) v11 v13)) fun v15 =>
 gopV (yV v15) false (fun k18 => k18 v6 h14) h14 fun v16 h17 =>
 gopV (yV v15) false (fun k21 => k21 t1 h17) h17 fun v19 h20 =>
 gopV (yV v15) false (fun k24 => callC PG v16 #[v19] h20 fun v25 h26 => k24 v25 h26) h20 fun v22 h23 =>
 gopV (yV v15) false (fun k29 => CallsH PG id_model_Step #[v22, (Value.slice none 0 0)] h23 fun v30 h31 => k29 v30 h31) h23 fun v27 h28 =>
 popO (pickV v15 (Value.bool true) v27) fun v32 =>
 gopV (yV v32) false (fun k35 => k35 v6 h28) h28 fun v33 h34 =>
 gopV (yV v32) false (fun k38 => k38 t1 h34) h34 fun v36 h37 =>
 gopV (yV v32) false (fun k41 => callC PG v33 #[v36] h37 fun v42 h43 => k41 v42 h43) h37 fun v39 h40 =>
 gopV (yV v32) false (fun k46 => CallsH PG id_model_Step #[(Value.slice none 0 0), v39] h40 fun v47 h48 => k46 v47 h48) h40 fun v44 h45 =>
 gopV (yV v32) false (fun k51 => popO (SemP PG (Op.unary UnOp.not v44)) fun v52 => k51 v52 h45) h45 fun v49 h50 =>
 popO (pickV v32 (Value.bool true) v49) fun v53 =>
 condV v53
 (R (Value.bool false) h50)
 (callC PG v6 #[t1] h50 fun v54 h55 =>
 callC PG v6 #[t2] h55 fun v56 h57 =>
 CallsH PG id_model_Step #[v54, v56] h57 fun v58 h59 =>
 gopV (yV v58) true (fun k62 => k62 v6 h59) h59 fun v60 h61 =>
 gopV (yV v58) true (fun k65 => k65 t2 h61) h61 fun v63 h64 =>
 gopV (yV v58) true (fun k68 => callC PG v60 #[v63] h64 fun v69 h70 => k68 v69 h70) h64 fun v66 h67 =>
 gopV (yV v58) true (fun k73 => k73 v6 h67) h67 fun v71 h72 =>
 gopV (yV v58) true (fun k76 => k76 t3 h72) h72 fun v74 h75 =>
 gopV (yV v58) true (fun k79 => callC PG v71 #[v74] h75 fun v80 h81 => k79 v80 h81) h75 fun v77 h78 =>
 gopV (yV v58) true (fun k84 => CallsH PG id_model_Step #[v66, v77] h78 fun v85 h86 => k84 v85 h86) h78 fun v82 h83 =>
 popO (pickV v58 v82 (Value.bool false)) fun v87 =>
 gopV (yV v87) true (fun k90 => k90 v6 h83) h83 fun v88 h89 =>
 gopV (yV v87) true (fun k93 => k93 t1 h89) h89 fun v91 h92 =>
 gopV (yV v87) true (fun k96 => callC PG v88 #[v91] h92 fun v97 h98 => k96 v97 h98) h92 fun v94 h95 =>
 gopV (yV v87) true (fun k101 => k101 v6 h95) h95 fun v99 h100 =>
 gopV (yV v87) true (fun k104 => k104 t3 h100) h100 fun v102 h103 =>
 gopV (yV v87) true (fun k107 => callC PG v99 #[v102] h103 fun v108 h109 => k107 v108 h109) h103 fun v105 h106 =>
 gopV (yV v87) true (fun k112 => CallsH PG id_model_Step #[v94, v105] h106 fun v113 h114 => k112 v113 h114) h106 fun v110 h111 =>
 gopV (yV v87) true (fun k117 => popO (SemP PG (Op.unary UnOp.not v110)) fun v118 => k117 v118 h111) h111 fun v115 h116 =>
 popO (pickV v87 v115 (Value.bool false)) fun v119 =>
 condV v119
 (R (Value.bool false) h116)
 (popO (SemE PG h116 (binS BinOp.neq T_int (.tmp 64) (.tmp 65) t1 t2)) fun v120 =>
 gopV (yV v120) true (fun k123 => k123 v6 h116) h116 fun v121 h122 =>
 gopV (yV v120) true (fun k126 => k126 t1 h122) h122 fun v124 h125 =>
 gopV (yV v120) true (fun k129 => callC PG v121 #[v124] h125 fun v130 h131 => k129 v130 h131) h125 fun v127 h128 =>
 gopV (yV v120) true (fun k134 => k134 v6 h128) h128 fun v132 h133 =>
 gopV (yV v120) true (fun k137 => k137 t2 h133) h133 fun v135 h136 =>
 gopV (yV v120) true (fun k140 => callC PG v132 #[v135] h136 fun v141 h142 => k140 v141 h142) h136 fun v138 h139 =>
 gopV (yV v120) true (fun k145 => CallsH PG id_model_Step #[v127, v138] h139 fun v146 h147 => k145 v146 h147) h139 fun v143 h144 =>
 popO (pickV v120 v143 (Value.bool false)) fun v148 =>
 gopV (yV v148) true (fun k151 => k151 v6 h144) h144 fun v149 h150 =>
 gopV (yV v148) true (fun k154 => k154 t2 h150) h150 fun v152 h153 =>
 gopV (yV v148) true (fun k157 => callC PG v149 #[v152] h153 fun v158 h159 => k157 v158 h159) h153 fun v155 h156 =>
 gopV (yV v148) true (fun k162 => k162 v6 h156) h156 fun v160 h161 =>
 gopV (yV v148) true (fun k165 => k165 t1 h161) h161 fun v163 h164 =>
 gopV (yV v148) true (fun k168 => callC PG v160 #[v163] h164 fun v169 h170 => k168 v169 h170) h164 fun v166 h167 =>
 gopV (yV v148) true (fun k173 => CallsH PG id_model_Step #[v155, v166] h167 fun v174 h175 => k173 v174 h175) h167 fun v171 h172 =>
 popO (pickV v148 v171 (Value.bool false)) fun v176 =>
 condV v176
 (R (Value.bool false) h172)
 (popO (SemE PG h172 (binS BinOp.neq T_int (.tmp 85) (.const (Value.int IntKind.i64 3)) t1 (Value.int IntKind.i64 3))) fun v177 =>
 gopV (yV v177) true (fun k180 => k180 t1 h172) h172 fun v178 h179 =>
 gopV (yV v177) true (fun k183 => popO (SemE PG h179 (binS BinOp.neq T_int (.tmp 88) (.const (Value.int IntKind.i64 4)) v178 (Value.int IntKind.i64 4))) fun v184 => k183 v184 h179) h179 fun v181 h182 =>
 popO (pickV v177 v181 (Value.bool false)) fun v185 =>
 gopV (yV v185) false (fun k188 => k188 t1 h182) h182 fun v186 h187 =>
 gopV (yV v185) false (fun k191 => k191 t2 h187) h187 fun v189 h190 =>
 gopV (yV v185) false (fun k194 => popO (SemE PG h190 (binS BinOp.eql T_int (.tmp 92) (.tmp 93) v186 v189)) fun v195 => k194 v195 h190) h190 fun v192 h193 =>
 popO (pickV v185 (Value.bool true) v192) fun v196 =>
 gopV (yV v196) false (fun k199 => k199 v6 h193) h193 fun v197 h198 =>
 gopV (yV v196) false (fun k202 => k202 t1 h198) h198 fun v200 h201 =>
 gopV (yV v196) false (fun k205 => callC PG v197 #[v200] h201 fun v206 h207 => k205 v206 h207) h201 fun v203 h204 =>
 gopV (yV v196) false (fun k210 => k210 v6 h204) h204 fun v208 h209 =>
 gopV (yV v196) false (fun k213 => k213 t2 h209) h209 fun v211 h212 =>
 gopV (yV v196) false (fun k216 => callC PG v208 #[v211] h212 fun v217 h218 => k216 v217 h218) h212 fun v214 h215 =>
 gopV (yV v196) false (fun k221 => CallsH PG id_model_Step #[v203, v214] h215 fun v222 h223 => k221 v222 h223) h215 fun v219 h220 =>
 gopV (yV v196) false (fun k226 => popO (SemP PG (Op.unary UnOp.not v219)) fun v227 => k226 v227 h220) h220 fun v224 h225 =>
 popO (pickV v196 (Value.bool true) v224) fun v228 =>
 gopV (yV v228) true (fun k231 => k231 t1 h225) h225 fun v229 h230 =>
 gopV (yV v228) true (fun k234 => k234 t2 h230) h230 fun v232 h233 =>
 gopV (yV v228) true (fun k237 => CallsH PG id_model_Follows #[v229, v232] h233 fun v238 h239 => k237 v238 h239) h233 fun v235 h236 =>
 gopV (yV v228) true (fun k242 => popO (SemP PG (Op.unary UnOp.not v235)) fun v243 => k242 v243 h236) h236 fun v240 h241 =>
 gopV (yV v228) true (fun k246 => k246 v240 h241) h241 fun v244 h245 =>
 gopV (yV v244) false (fun k249 => k249 t1 h245) h245 fun v247 h248 =>
 gopV (yV v244) false (fun k252 => k252 t2 h248) h248 fun v250 h251 =>
 gopV (yV v244) false (fun k255 => CallsH PG id_model_Reached #[v247, v250] h251 fun v256 h257 => k255 v256 h257) h251 fun v253 h254 =>
 gopV (yV v228) true (fun k260 => popO (pickV v244 (Value.bool true) v253) fun v261 => k260 v261 h254) h254 fun v258 h259 =>
 popO (pickV v228 v258 (Value.bool false)) fun v262 =>
 R v262 h259))))
def carracklaw22_ModelOrder.ann : Ann := { b := fun i => match i with  | _ => #[], ord := fun i => match i with  | _ => [], keep := fun i => match i with  | _ => [] }
theorem carracklaw22_ModelOrder.eq (t0 : Value) (t1 : Value) (t2 : Value) (t3 : Value) (h0 : PH) (R : Value → PH → Prop) : codeH PG carracklaw22_ModelOrder.ann (bodyOf Tryd.f3) (endH PG Tryd.f3 R) (fun t => (#[t0, t1, t2, t3] : Array Value).getD t undef) h0 = carracklaw22_ModelOrder t0 t1 t2 t3 h0 R := by kernel_rfl
theorem carracklaw22_ModelOrder.call {t0 : Value} {t1 : Value} {t2 : Value} {t3 : Value} {h0 : PH} {R : Value → PH → Prop} (H : carracklaw22_ModelOrder t0 t1 t2 t3 h0 R) : CallsH PG id_carracklaw22_ModelOrder #[t0, t1, t2, t3] h0 R :=
  callsH_by carracklaw22_ModelOrder.ann mix Tryd.func3 (by kernel_rfl) (by kernel_rfl) (by kernel_rfl) (by simp [Tryd.ntmps3]) (carracklaw22_ModelOrder.eq t0 t1 t2 t3 h0 R) H

def carracklaw22_awake (h0 : PH) (R : Value → PH → Prop) : Prop :=
 CallsH PG id_model_Follows #[(Value.int IntKind.i64 1), (Value.int IntKind.i64 3)] h0 fun v1 h2 =>
 popO (SemP PG (Op.unary UnOp.not v1)) fun v3 =>
 gopV (yV v3) true (fun k6 => CallsH PG id_model_Reached #[(Value.int IntKind.i64 1), (Value.int IntKind.i64 3)] h2 fun v7 h8 => k6 v7 h8) h2 fun v4 h5 =>
 popO (pickV v3 v4 (Value.bool false)) fun v9 =>
 gopV (yV v9) true (fun k12 => CallsH PG id_model_Reached #[(Value.int IntKind.i64 4), (Value.int IntKind.i64 3)] h5 fun v13 h14 => k12 v13 h14) h5 fun v10 h11 =>
 gopV (yV v9) true (fun k17 => popO (SemP PG (Op.unary UnOp.not v10)) fun v18 => k17 v18 h11) h11 fun v15 h16 =>
 popO (pickV v9 v15 (Value.bool false)) fun v19 =>
 gopV (yV v19) true (fun k22 => CallsH PG id_model_Follows #[(Value.int IntKind.i64 0), (Value.int IntKind.i64 1)] h16 fun v23 h24 => k22 v23 h24) h16 fun v20 h21 =>
 popO (pickV v19 v20 (Value.bool false)) fun v25 =>
 R v25 h21
def carracklaw22_awake.ann : Ann := { b := fun i => match i with  | _ => #[], ord := fun i => match i with  | _ => [], keep := fun i => match i with  | _ => [] }
theorem carracklaw22_awake.eq (h0 : PH) (R : Value → PH → Prop) : codeH PG carracklaw22_awake.ann (bodyOf Tryd.f6) (endH PG Tryd.f6 R) (fun t => (#[] : Array Value).getD t undef) h0 = carracklaw22_awake  h0 R := by kernel_rfl
theorem carracklaw22_awake.call {h0 : PH} {R : Value → PH → Prop} (H : carracklaw22_awake  h0 R) : CallsH PG id_carracklaw22_awake #[] h0 R :=
  callsH_by carracklaw22_awake.ann mix Tryd.func6 (by kernel_rfl) (by kernel_rfl) (by kernel_rfl) (by simp [Tryd.ntmps6]) (carracklaw22_awake.eq  h0 R) H

def model_Follows (t0 : Value) (t1 : Value) (h0 : PH) (R : Value → PH → Prop) : Prop :=
 popO (SemP PG (Instr.sliceAt T_4_2_int (Value.pointer (some ⟨0, 0, none⟩)) none none none)) fun v1 =>
 popO (SemP PG (Instr.build T_2_int #[(0, t0), (1, t1)])) fun v2 =>
 CallsH PG id_slices_Contains_sl_2_int_2_int #[v1, v2] h0 fun v3 h4 =>
 R v3 h4
def model_Follows.ann : Ann := { b := fun i => match i with  | _ => #[], ord := fun i => match i with  | _ => [], keep := fun i => match i with  | _ => [] }
theorem model_Follows.eq (t0 : Value) (t1 : Value) (h0 : PH) (R : Value → PH → Prop) : codeH PG model_Follows.ann (bodyOf Tryd.f10) (endH PG Tryd.f10 R) (fun t => (#[t0, t1] : Array Value).getD t undef) h0 = model_Follows t0 t1 h0 R := by kernel_rfl
theorem model_Follows.call {t0 : Value} {t1 : Value} {h0 : PH} {R : Value → PH → Prop} (H : model_Follows t0 t1 h0 R) : CallsH PG id_model_Follows #[t0, t1] h0 R :=
  callsH_by model_Follows.ann mix Tryd.func10 (by kernel_rfl) (by kernel_rfl) (by kernel_rfl) (by simp [Tryd.ntmps10]) (model_Follows.eq t0 t1 h0 R) H

def slices_Contains_sl_2_int_2_int (t0 : Value) (t1 : Value) (h0 : PH) (R : Value → PH → Prop) : Prop :=
 ∀ r1, h0 r1 = none → bindH (PH.set h0 r1 (.cells (Value.cells t1) T_2_int)) fun h2 =>
 popO (SemE PG h2 (Instr.loadAt T_2_int (Value.pointer (some ⟨r1, 0, none⟩)))) fun v3 =>
 CallsH PG id_slices_Index_sl_2_int_2_int #[t0, v3] h2 fun v4 h5 =>
 popO (SemP PG (binOp BinOp.geq T_int v4 (Value.int IntKind.i64 0))) fun v6 =>
 R v6 h5
def slices_Contains_sl_2_int_2_int.ann : Ann := { b := fun i => match i with  | _ => #[], ord := fun i => match i with  | _ => [], keep := fun i => match i with  | _ => [] }
theorem slices_Contains_sl_2_int_2_int.eq (t0 : Value) (t1 : Value) (h0 : PH) (R : Value → PH → Prop) : codeH PG slices_Contains_sl_2_int_2_int.ann (bodyOf Tryd.f21) (endH PG Tryd.f21 R) (fun t => (#[t0, t1] : Array Value).getD t undef) h0 = slices_Contains_sl_2_int_2_int t0 t1 h0 R := by kernel_rfl
theorem slices_Contains_sl_2_int_2_int.call {t0 : Value} {t1 : Value} {h0 : PH} {R : Value → PH → Prop} (H : slices_Contains_sl_2_int_2_int t0 t1 h0 R) : CallsH PG id_slices_Contains_sl_2_int_2_int #[t0, t1] h0 R :=
  callsH_by slices_Contains_sl_2_int_2_int.ann mix Tryd.func21 (by kernel_rfl) (by kernel_rfl) (by kernel_rfl) (by simp [Tryd.ntmps21]) (slices_Contains_sl_2_int_2_int.eq t0 t1 h0 R) H

def slices_Index_sl_2_int_2_int_b5 (R : Value → PH → Prop) (n4 : List Value → PH → Prop) (t0 : Value) (t3 : Value) (t7 : Value) (t8 : Value) (h0 : PH) : Prop :=
 popO (SemP PG (binOp BinOp.lss T_int t8 t7)) fun v6 =>
 condV v6
 (popO (SemE PG h0 (Instr.loadAt T_2_int t3)) fun v7 =>
 popO (SemP PG (Instr.indexAt T_sl_2_int t0 t8)) fun v8 =>
 popO (SemE PG h0 (Instr.loadAt T_2_int v8)) fun v9 =>
 popO (SemE PG h0 (binS BinOp.eql T_2_int (.tmp 11) (.tmp 15) v7 v9)) fun v10 =>
 condV v10
 (R t8 h0)
 (popO (SemP PG (binOp BinOp.add T_int t8 (Value.int IntKind.i64 1))) fun v11 =>
 n4 [t0, t3, t7, v11] h0))
 (R (Value.int IntKind.i64 (-1)) h0)
def slices_Index_sl_2_int_2_int (t0 : Value) (t1 : Value) (h0 : PH) (R : Value → PH → Prop) : Prop :=
 ∀ r1, h0 r1 = none → bindH (PH.set h0 r1 (.cells (Value.cells t1) T_2_int)) fun h2 =>
 popO (SemP PG (Builtin.len_ #[T_sl_2_int] T_int #[t0])) fun v3 =>
 LoopL [0, 3, 7, 8] (fun n4 ρ h => slices_Index_sl_2_int_2_int_b5 R n4 (ρ 0) (ρ 3) (ρ 7) (ρ 8) h) [t0, (Value.pointer (some ⟨r1, 0, none⟩)), v3, (Value.int IntKind.i64 0)] h2
def slices_Index_sl_2_int_2_int.ann : Ann := { b := fun i => match i with | 4 => #[0, 0, 0, 6, 14, 31] | _ => #[], ord := fun i => match i with | 4 => [0, 1, 2, 3, 4, 5] | _ => [], keep := fun i => match i with | 2 => [0, 3, 7, 8] | _ => [] }
theorem slices_Index_sl_2_int_2_int.eq (t0 : Value) (t1 : Value) (h0 : PH) (R : Value → PH → Prop) : codeH PG slices_Index_sl_2_int_2_int.ann (bodyOf Tryd.f26) (endH PG Tryd.f26 R) (fun t => (#[t0, t1] : Array Value).getD t undef) h0 = slices_Index_sl_2_int_2_int t0 t1 h0 R := by kernel_rfl
theorem slices_Index_sl_2_int_2_int.call {t0 : Value} {t1 : Value} {h0 : PH} {R : Value → PH → Prop} (H : slices_Index_sl_2_int_2_int t0 t1 h0 R) : CallsH PG id_slices_Index_sl_2_int_2_int #[t0, t1] h0 R :=
  callsH_by slices_Index_sl_2_int_2_int.ann mix Tryd.func26 (by kernel_rfl) (by kernel_rfl) (by kernel_rfl) (by simp [Tryd.ntmps26]) (slices_Index_sl_2_int_2_int.eq t0 t1 h0 R) H

def model_Reached (t0 : Value) (t1 : Value) (h0 : PH) (R : Value → PH → Prop) : Prop :=
 ∀ r1, h0 r1 = none → bindH (PH.set h0 r1 (.cells (Value.cells t0) T_int)) fun h2 =>
 ∀ r3, h2 r3 = none → bindH (PH.set h2 r3 (.cells (Value.cells t1) T_int)) fun h4 =>
 popO (SemE PG h4 (Instr.loadAt T_int (Value.pointer (some ⟨r1, 0, none⟩)))) fun v5 =>
 CallsH PG id_model_state #[v5] h4 fun v6 h7 =>
 popO (SemP PG (Op.unary UnOp.not v6)) fun v8 =>
 gopV (yV v8) false (fun k11 => popO (SemE PG h7 (Instr.loadAt T_int (Value.pointer (some ⟨r3, 0, none⟩)))) fun v12 => k11 v12 h7) h7 fun v9 h10 =>
 gopV (yV v8) false (fun k15 => CallsH PG id_model_state #[v9] h10 fun v16 h17 => k15 v16 h17) h10 fun v13 h14 =>
 gopV (yV v8) false (fun k20 => popO (SemP PG (Op.unary UnOp.not v13)) fun v21 => k20 v21 h14) h14 fun v18 h19 =>
 popO (pickV v8 (Value.bool true) v18) fun v22 =>
 condV v22
 (R (Value.bool false) h19)
 (popO (SemE PG h19 (Instr.loadAt T_int (Value.pointer (some ⟨r1, 0, none⟩)))) fun v23 =>
 popO (SemE PG h19 (Instr.loadAt T_int (Value.pointer (some ⟨r3, 0, none⟩)))) fun v24 =>
 popO (SemE PG h19 (binS BinOp.eql T_int (.tmp 13) (.tmp 14) v23 v24)) fun v25 =>
 condV v25
 (R (Value.bool true) h19)
 (popO (SemP PG (Instr.sliceAt T_4_2_int (Value.pointer (some ⟨0, 0, none⟩)) none none none)) fun v26 =>
 popO (SemP PG (Instr.makeFunc (Fn.func id_model_Reached_1) #[] #[(Value.pointer (some ⟨r1, 0, none⟩)), (Value.pointer (some ⟨r3, 0, none⟩))])) fun v27 =>
 CallsH PG id_slices_ContainsFunc_sl_2_int_2_int #[v26, v27] h19 fun v28 h29 =>
 R v28 h29))
def model_Reached.ann : Ann := { b := fun i => match i with  | _ => #[], ord := fun i => match i with  | _ => [], keep := fun i => match i with  | _ => [] }
theorem model_Reached.eq (t0 : Value) (t1 : Value) (h0 : PH) (R : Value → PH → Prop) : codeH PG model_Reached.ann (bodyOf Tryd.f11) (endH PG Tryd.f11 R) (fun t => (#[t0, t1] : Array Value).getD t undef) h0 = model_Reached t0 t1 h0 R := by kernel_rfl
theorem model_Reached.call {t0 : Value} {t1 : Value} {h0 : PH} {R : Value → PH → Prop} (H : model_Reached t0 t1 h0 R) : CallsH PG id_model_Reached #[t0, t1] h0 R :=
  callsH_by model_Reached.ann mix Tryd.func11 (by kernel_rfl) (by kernel_rfl) (by kernel_rfl) (by simp [Tryd.ntmps11]) (model_Reached.eq t0 t1 h0 R) H

def model_state (t0 : Value) (h0 : PH) (R : Value → PH → Prop) : Prop :=
 popO (SemP PG (binOp BinOp.geq T_int t0 (Value.int IntKind.i64 0))) fun v1 =>
 gopV (yV v1) true (fun k4 => k4 t0 h0) h0 fun v2 h3 =>
 gopV (yV v1) true (fun k7 => popO (SemP PG (binOp BinOp.leq T_int v2 (Value.int IntKind.i64 4))) fun v8 => k7 v8 h3) h3 fun v5 h6 =>
 popO (pickV v1 v5 (Value.bool false)) fun v9 =>
 R v9 h6
def model_state.ann : Ann := { b := fun i => match i with  | _ => #[], ord := fun i => match i with  | _ => [], keep := fun i => match i with  | _ => [] }
theorem model_state.eq (t0 : Value) (h0 : PH) (R : Value → PH → Prop) : codeH PG model_state.ann (bodyOf Tryd.f22) (endH PG Tryd.f22 R) (fun t => (#[t0] : Array Value).getD t undef) h0 = model_state t0 h0 R := by kernel_rfl
theorem model_state.call {t0 : Value} {h0 : PH} {R : Value → PH → Prop} (H : model_state t0 h0 R) : CallsH PG id_model_state #[t0] h0 R :=
  callsH_by model_state.ann mix Tryd.func22 (by kernel_rfl) (by kernel_rfl) (by kernel_rfl) (by simp [Tryd.ntmps22]) (model_state.eq t0 h0 R) H

def slices_ContainsFunc_sl_2_int_2_int (t0 : Value) (t1 : Value) (h0 : PH) (R : Value → PH → Prop) : Prop :=
 CallsH PG id_slices_IndexFunc_sl_2_int_2_int #[t0, t1] h0 fun v1 h2 =>
 popO (SemP PG (binOp BinOp.geq T_int v1 (Value.int IntKind.i64 0))) fun v3 =>
 R v3 h2
def slices_ContainsFunc_sl_2_int_2_int.ann : Ann := { b := fun i => match i with  | _ => #[], ord := fun i => match i with  | _ => [], keep := fun i => match i with  | _ => [] }
theorem slices_ContainsFunc_sl_2_int_2_int.eq (t0 : Value) (t1 : Value) (h0 : PH) (R : Value → PH → Prop) : codeH PG slices_ContainsFunc_sl_2_int_2_int.ann (bodyOf Tryd.f23) (endH PG Tryd.f23 R) (fun t => (#[t0, t1] : Array Value).getD t undef) h0 = slices_ContainsFunc_sl_2_int_2_int t0 t1 h0 R := by kernel_rfl
theorem slices_ContainsFunc_sl_2_int_2_int.call {t0 : Value} {t1 : Value} {h0 : PH} {R : Value → PH → Prop} (H : slices_ContainsFunc_sl_2_int_2_int t0 t1 h0 R) : CallsH PG id_slices_ContainsFunc_sl_2_int_2_int #[t0, t1] h0 R :=
  callsH_by slices_ContainsFunc_sl_2_int_2_int.ann mix Tryd.func23 (by kernel_rfl) (by kernel_rfl) (by kernel_rfl) (by simp [Tryd.ntmps23]) (slices_ContainsFunc_sl_2_int_2_int.eq t0 t1 h0 R) H

def slices_IndexFunc_sl_2_int_2_int_b3 (R : Value → PH → Prop) (n2 : List Value → PH → Prop) (t0 : Value) (t1 : Value) (t7 : Value) (t8 : Value) (h0 : PH) : Prop :=
 popO (SemP PG (binOp BinOp.lss T_int t8 t7)) fun v4 =>
 condV v4
 (popO (SemP PG (Instr.indexAt T_sl_2_int t0 t8)) fun v5 =>
 popO (SemE PG h0 (Instr.loadAt T_2_int v5)) fun v6 =>
 callC PG t1 #[v6] h0 fun v7 h8 =>
 condV v7
 (R t8 h8)
 (popO (SemP PG (binOp BinOp.add T_int t8 (Value.int IntKind.i64 1))) fun v9 =>
 n2 [t0, t1, t7, v9] h8))
 (R (Value.int IntKind.i64 (-1)) h0)
def slices_IndexFunc_sl_2_int_2_int (t0 : Value) (t1 : Value) (h0 : PH) (R : Value → PH → Prop) : Prop :=
 popO (SemP PG (Builtin.len_ #[T_sl_2_int] T_int #[t0])) fun v1 =>
 LoopL [0, 1, 7, 8] (fun n2 ρ h => slices_IndexFunc_sl_2_int_2_int_b3 R n2 (ρ 0) (ρ 1) (ρ 7) (ρ 8) h) [t0, t1, v1, (Value.int IntKind.i64 0)] h0
def slices_IndexFunc_sl_2_int_2_int.ann : Ann := { b := fun i => match i with  | _ => #[], ord := fun i => match i with  | _ => [], keep := fun i => match i with | 2 => [0, 1, 7, 8] | _ => [] }
theorem slices_IndexFunc_sl_2_int_2_int.eq (t0 : Value) (t1 : Value) (h0 : PH) (R : Value → PH → Prop) : codeH PG slices_IndexFunc_sl_2_int_2_int.ann (bodyOf Tryd.f27) (endH PG Tryd.f27 R) (fun t => (#[t0, t1] : Array Value).getD t undef) h0 = slices_IndexFunc_sl_2_int_2_int t0 t1 h0 R := by kernel_rfl
theorem slices_IndexFunc_sl_2_int_2_int.call {t0 : Value} {t1 : Value} {h0 : PH} {R : Value → PH → Prop} (H : slices_IndexFunc_sl_2_int_2_int t0 t1 h0 R) : CallsH PG id_slices_IndexFunc_sl_2_int_2_int #[t0, t1] h0 R :=
  callsH_by slices_IndexFunc_sl_2_int_2_int.ann mix Tryd.func27 (by kernel_rfl) (by kernel_rfl) (by kernel_rfl) (by simp [Tryd.ntmps27]) (slices_IndexFunc_sl_2_int_2_int.eq t0 t1 h0 R) H

def model_Reached_1 (t0 : Value) (t1 : Value) (t2 : Value) (h0 : PH) (R : Value → PH → Prop) : Prop :=
 ∀ r1, h0 r1 = none → bindH (PH.set h0 r1 (.cells (Value.cells t0) T_2_int)) fun h2 =>
 popO (SemP PG (Instr.indexAt T_2_int (Value.pointer (some ⟨r1, 0, none⟩)) (Value.int IntKind.i64 0))) fun v3 =>
 popO (SemE PG h2 (Instr.loadAt T_int v3)) fun v4 =>
 popO (SemE PG h2 (Instr.loadAt T_int t1)) fun v5 =>
 popO (SemE PG h2 (binS BinOp.eql T_int (.tmp 6) (.tmp 7) v4 v5)) fun v6 =>
 gopV (yV v6) true (fun k9 => popO (SemP PG (Instr.indexAt T_2_int (Value.pointer (some ⟨r1, 0, none⟩)) (Value.int IntKind.i64 1))) fun v10 => k9 v10 h2) h2 fun v7 h8 =>
 gopV (yV v6) true (fun k13 => popO (SemE PG h8 (Instr.loadAt T_int v7)) fun v14 => k13 v14 h8) h8 fun v11 h12 =>
 gopV (yV v6) true (fun k17 => popO (SemE PG h12 (Instr.loadAt T_int t2)) fun v18 => k17 v18 h12) h12 fun v15 h16 =>
 gopV (yV v6) true (fun k21 => CallsH PG id_model_Reached #[v11, v15] h16 fun v22 h23 => k21 v22 h23) h16 fun v19 h20 =>
 popO (pickV v6 v19 (Value.bool false)) fun v24 =>
 R v24 h20
def model_Reached_1.ann : Ann := { b := fun i => match i with  | _ => #[], ord := fun i => match i with  | _ => [], keep := fun i => match i with  | _ => [] }
theorem model_Reached_1.eq (t0 : Value) (t1 : Value) (t2 : Value) (h0 : PH) (R : Value → PH → Prop) : codeH PG model_Reached_1.ann (bodyOf Tryd.f24) (endH PG Tryd.f24 R) (fun t => (#[t0, t1, t2] : Array Value).getD t undef) h0 = model_Reached_1 t0 t1 t2 h0 R := by kernel_rfl
theorem model_Reached_1.call {t0 : Value} {t1 : Value} {t2 : Value} {h0 : PH} {R : Value → PH → Prop} (H : model_Reached_1 t0 t1 t2 h0 R) : CallsH PG id_model_Reached_1 #[t0, t1, t2] h0 R :=
  callsH_by model_Reached_1.ann mix Tryd.func24 (by kernel_rfl) (by kernel_rfl) (by kernel_rfl) (by simp [Tryd.ntmps24]) (model_Reached_1.eq t0 t1 t2 h0 R) H

def carracklaw22_ModelOrder_1 (t0 : Value) (t1 : Value) (h0 : PH) (R : Value → PH → Prop) : Prop :=
 popO (SemE PG h0 (Instr.loadAt T_api_Packet t1)) fun v1 =>
 popO (SemP PG (Instr.build T_model_Entry #[(0, v1), (1, t0)])) fun v2 =>
 popO (SemA PG (Instr.buildSlice T_sl_model_Entry 1 #[(0, v2)])) fun x4 => ∀ r3, h0 r3 = none → popO (SemP PG (x4.2 r3)) fun v5 => bindH (PH.set h0 r3 x4.1) fun h6 =>
 R v5 h6
def carracklaw22_ModelOrder_1.ann : Ann := { b := fun i => match i with  | _ => #[], ord := fun i => match i with  | _ => [], keep := fun i => match i with  | _ => [] }
theorem carracklaw22_ModelOrder_1.eq (t0 : Value) (t1 : Value) (h0 : PH) (R : Value → PH → Prop) : codeH PG carracklaw22_ModelOrder_1.ann (bodyOf Tryd.f7) (endH PG Tryd.f7 R) (fun t => (#[t0, t1] : Array Value).getD t undef) h0 = carracklaw22_ModelOrder_1 t0 t1 h0 R := by kernel_rfl
theorem carracklaw22_ModelOrder_1.call {t0 : Value} {t1 : Value} {h0 : PH} {R : Value → PH → Prop} (H : carracklaw22_ModelOrder_1 t0 t1 h0 R) : CallsH PG id_carracklaw22_ModelOrder_1 #[t0, t1] h0 R :=
  callsH_by carracklaw22_ModelOrder_1.ann mix Tryd.func7 (by kernel_rfl) (by kernel_rfl) (by kernel_rfl) (by simp [Tryd.ntmps7]) (carracklaw22_ModelOrder_1.eq t0 t1 h0 R) H

def carracklaw22_ModelOrder_2 (t0 : Value) (h0 : PH) (R : Value → PH → Prop) : Prop :=
 popO (SemP PG (binOp BinOp.geq T_int t0 (Value.int IntKind.i64 0))) fun v1 =>
 gopV (yV v1) true (fun k4 => k4 t0 h0) h0 fun v2 h3 =>
 gopV (yV v1) true (fun k7 => popO (SemP PG (binOp BinOp.leq T_int v2 (Value.int IntKind.i64 4))) fun v8 => k7 v8 h3) h3 fun v5 h6 =>
 popO (pickV v1 v5 (Value.bool false)) fun v9 =>
 R v9 h6
def carracklaw22_ModelOrder_2.ann : Ann := { b := fun i => match i with  | _ => #[], ord := fun i => match i with  | _ => [], keep := fun i => match i with  | _ => [] }
theorem carracklaw22_ModelOrder_2.eq (t0 : Value) (h0 : PH) (R : Value → PH → Prop) : codeH PG carracklaw22_ModelOrder_2.ann (bodyOf Tryd.f8) (endH PG Tryd.f8 R) (fun t => (#[t0] : Array Value).getD t undef) h0 = carracklaw22_ModelOrder_2 t0 h0 R := by kernel_rfl
theorem carracklaw22_ModelOrder_2.call {t0 : Value} {h0 : PH} {R : Value → PH → Prop} (H : carracklaw22_ModelOrder_2 t0 h0 R) : CallsH PG id_carracklaw22_ModelOrder_2 #[t0] h0 R :=
  callsH_by carracklaw22_ModelOrder_2.ann mix Tryd.func8 (by kernel_rfl) (by kernel_rfl) (by kernel_rfl) (by simp [Tryd.ntmps8]) (carracklaw22_ModelOrder_2.eq t0 h0 R) H

def model_Step_k34 (R : Value → PH → Prop) (n10 : List Value → PH → Prop) (t0 : Value) (t5 : Value) (t11 : Value) (t12 : Value) (t13 : Value) (h0 : PH) : Prop :=
 popO (SemP PG (binOp BinOp.add T_int t13 (Value.int IntKind.i64 1))) fun v35 =>
 n10 [t0, t5, t11, t12, v35] h0
def model_Step_k33 (R : Value → PH → Prop) (n10 : List Value → PH → Prop) (t0 : Value) (t5 : Value) (t11 : Value) (t12 : Value) (t13 : Value) (h0 : PH) : Prop :=
 model_Step_k34 R n10 t0 t5 t11 t12 t13 h0
def model_Step_b11 (R : Value → PH → Prop) (n10 : List Value → PH → Prop) (t0 : Value) (t5 : Value) (t11 : Value) (t12 : Value) (t13 : Value) (h0 : PH) : Prop :=
 popO (SemP PG (binOp BinOp.lss T_int t13 t12)) fun v12 =>
 condV v12
 (popO (SemP PG (Instr.indexAt T_sl_model_Entry t11 t13)) fun v13 =>
 popO (SemE PG h0 (Instr.loadAt T_model_Entry v13)) fun v14 =>
 ∀ r15, h0 r15 = none → bindH (PH.set h0 r15 (.cells (zcells PG T_model_Entry) T_model_Entry)) fun h16 =>
 SemH PG (storeS T_model_Entry (Value.pointer (some ⟨r15, 0, none⟩)) v14) h16 fun v17 h18 =>
 popO (SemE PG h18 (Instr.loadAt T_map_api_Packet_int t5)) fun v19 =>
 popO (SemP PG (Instr.fieldAt T_model_Entry (Value.pointer (some ⟨r15, 0, none⟩)) 0)) fun v20 =>
 popO (SemE PG h18 (Instr.loadAt T_api_Packet v20)) fun v21 =>
 popO (SemE PG h18 (Instr.lookup T_map_api_Packet_int v19 v21 true)) fun v22 =>
 popO (SemP PG (Instr.extract v22 0)) fun v23 =>
 popO (SemP PG (Instr.extract v22 1)) fun v24 =>
 popO (SemP PG (Op.unary UnOp.not v24)) fun v25 =>
 condV v25
 (popO (SemE PG h18 (Instr.loadAt T_map_api_Packet_int t5)) fun v26 =>
 popO (SemP PG (Instr.fieldAt T_model_Entry (Value.pointer (some ⟨r15, 0, none⟩)) 0)) fun v27 =>
 popO (SemE PG h18 (Instr.loadAt T_api_Packet v27)) fun v28 =>
 popO (SemP PG (Instr.fieldAt T_model_Entry (Value.pointer (some ⟨r15, 0, none⟩)) 1)) fun v29 =>
 popO (SemE PG h18 (Instr.loadAt T_int v29)) fun v30 =>
 SemH PG (mapUpdS T_map_api_Packet_int v26 v28 v30) h18 fun v31 h32 =>
 model_Step_k33 R n10 t0 t5 t11 t12 t13 h32)
 (model_Step_k33 R n10 t0 t5 t11 t12 t13 h18))
 (popO (SemP PG (Instr.makeFunc (Fn.func id_model_Step_1) #[] #[t5])) fun v36 =>
 CallsH PG id_slices_ContainsFunc_sl_model_Entry_model_Entry #[t0, v36] h0 fun v37 h38 =>
 popO (SemP PG (Op.unary UnOp.not v37)) fun v39 =>
 R v39 h38)
def model_Step (t0 : Value) (t1 : Value) (h0 : PH) (R : Value → PH → Prop) : Prop :=
 popO (SemA PG (Instr.makeMap T_map_api_Packet_int none)) fun x2 => ∀ r1, h0 r1 = none → popO (SemP PG (x2.2 r1)) fun v3 => bindH (PH.set h0 r1 x2.1) fun h4 =>
 ∀ r5, h4 r5 = none → bindH (PH.set h4 r5 (.cells (zcells PG T_map_api_Packet_int) T_map_api_Packet_int)) fun h6 =>
 SemH PG (storeS T_map_api_Packet_int (Value.pointer (some ⟨r5, 0, none⟩)) v3) h6 fun v7 h8 =>
 popO (SemP PG (Builtin.len_ #[T_sl_model_Entry] T_int #[t1])) fun v9 =>
 LoopL [0, 5, 11, 12, 13] (fun n10 ρ h => model_Step_b11 R n10 (ρ 0) (ρ 5) (ρ 11) (ρ 12) (ρ 13) h) [t0, (Value.pointer (some ⟨r5, 0, none⟩)), t1, v9, (Value.int IntKind.i64 0)] h8
def model_Step.ann : Ann := { b := fun i => match i with  | _ => #[], ord := fun i => match i with  | _ => [], keep := fun i => match i with | 3 => [0, 5, 11, 12, 13] | _ => [] }
theorem model_Step.eq (t0 : Value) (t1 : Value) (h0 : PH) (R : Value → PH → Prop) : codeH PG model_Step.ann (bodyOf Tryd.f9) (endH PG Tryd.f9 R) (fun t => (#[t0, t1] : Array Value).getD t undef) h0 = model_Step t0 t1 h0 R := by kernel_rfl
theorem model_Step.call {t0 : Value} {t1 : Value} {h0 : PH} {R : Value → PH → Prop} (H : model_Step t0 t1 h0 R) : CallsH PG id_model_Step #[t0, t1] h0 R :=
  callsH_by model_Step.ann mix Tryd.func9 (by kernel_rfl) (by kernel_rfl) (by kernel_rfl) (by simp [Tryd.ntmps9]) (model_Step.eq t0 t1 h0 R) H

def slices_ContainsFunc_sl_model_Entry_model_Entry (t0 : Value) (t1 : Value) (h0 : PH) (R : Value → PH → Prop) : Prop :=
 CallsH PG id_slices_IndexFunc_sl_model_Entry_model_Entry #[t0, t1] h0 fun v1 h2 =>
 popO (SemP PG (binOp BinOp.geq T_int v1 (Value.int IntKind.i64 0))) fun v3 =>
 R v3 h2
def slices_ContainsFunc_sl_model_Entry_model_Entry.ann : Ann := { b := fun i => match i with  | _ => #[], ord := fun i => match i with  | _ => [], keep := fun i => match i with  | _ => [] }
theorem slices_ContainsFunc_sl_model_Entry_model_Entry.eq (t0 : Value) (t1 : Value) (h0 : PH) (R : Value → PH → Prop) : codeH PG slices_ContainsFunc_sl_model_Entry_model_Entry.ann (bodyOf Tryd.f19) (endH PG Tryd.f19 R) (fun t => (#[t0, t1] : Array Value).getD t undef) h0 = slices_ContainsFunc_sl_model_Entry_model_Entry t0 t1 h0 R := by kernel_rfl
theorem slices_ContainsFunc_sl_model_Entry_model_Entry.call {t0 : Value} {t1 : Value} {h0 : PH} {R : Value → PH → Prop} (H : slices_ContainsFunc_sl_model_Entry_model_Entry t0 t1 h0 R) : CallsH PG id_slices_ContainsFunc_sl_model_Entry_model_Entry #[t0, t1] h0 R :=
  callsH_by slices_ContainsFunc_sl_model_Entry_model_Entry.ann mix Tryd.func19 (by kernel_rfl) (by kernel_rfl) (by kernel_rfl) (by simp [Tryd.ntmps19]) (slices_ContainsFunc_sl_model_Entry_model_Entry.eq t0 t1 h0 R) H

def slices_IndexFunc_sl_model_Entry_model_Entry_b3 (R : Value → PH → Prop) (n2 : List Value → PH → Prop) (t0 : Value) (t1 : Value) (t7 : Value) (t8 : Value) (h0 : PH) : Prop :=
 popO (SemP PG (binOp BinOp.lss T_int t8 t7)) fun v4 =>
 condV v4
 (popO (SemP PG (Instr.indexAt T_sl_model_Entry t0 t8)) fun v5 =>
 popO (SemE PG h0 (Instr.loadAt T_model_Entry v5)) fun v6 =>
 callC PG t1 #[v6] h0 fun v7 h8 =>
 condV v7
 (R t8 h8)
 (popO (SemP PG (binOp BinOp.add T_int t8 (Value.int IntKind.i64 1))) fun v9 =>
 n2 [t0, t1, t7, v9] h8))
 (R (Value.int IntKind.i64 (-1)) h0)
def slices_IndexFunc_sl_model_Entry_model_Entry (t0 : Value) (t1 : Value) (h0 : PH) (R : Value → PH → Prop) : Prop :=
 popO (SemP PG (Builtin.len_ #[T_sl_model_Entry] T_int #[t0])) fun v1 =>
 LoopL [0, 1, 7, 8] (fun n2 ρ h => slices_IndexFunc_sl_model_Entry_model_Entry_b3 R n2 (ρ 0) (ρ 1) (ρ 7) (ρ 8) h) [t0, t1, v1, (Value.int IntKind.i64 0)] h0
def slices_IndexFunc_sl_model_Entry_model_Entry.ann : Ann := { b := fun i => match i with  | _ => #[], ord := fun i => match i with  | _ => [], keep := fun i => match i with | 2 => [0, 1, 7, 8] | _ => [] }
theorem slices_IndexFunc_sl_model_Entry_model_Entry.eq (t0 : Value) (t1 : Value) (h0 : PH) (R : Value → PH → Prop) : codeH PG slices_IndexFunc_sl_model_Entry_model_Entry.ann (bodyOf Tryd.f25) (endH PG Tryd.f25 R) (fun t => (#[t0, t1] : Array Value).getD t undef) h0 = slices_IndexFunc_sl_model_Entry_model_Entry t0 t1 h0 R := by kernel_rfl
theorem slices_IndexFunc_sl_model_Entry_model_Entry.call {t0 : Value} {t1 : Value} {h0 : PH} {R : Value → PH → Prop} (H : slices_IndexFunc_sl_model_Entry_model_Entry t0 t1 h0 R) : CallsH PG id_slices_IndexFunc_sl_model_Entry_model_Entry #[t0, t1] h0 R :=
  callsH_by slices_IndexFunc_sl_model_Entry_model_Entry.ann mix Tryd.func25 (by kernel_rfl) (by kernel_rfl) (by kernel_rfl) (by simp [Tryd.ntmps25]) (slices_IndexFunc_sl_model_Entry_model_Entry.eq t0 t1 h0 R) H

def model_Step_1 (t0 : Value) (t1 : Value) (h0 : PH) (R : Value → PH → Prop) : Prop :=
 ∀ r1, h0 r1 = none → bindH (PH.set h0 r1 (.cells (Value.cells t0) T_model_Entry)) fun h2 =>
 popO (SemE PG h2 (Instr.loadAt T_map_api_Packet_int t1)) fun v3 =>
 popO (SemP PG (Instr.fieldAt T_model_Entry (Value.pointer (some ⟨r1, 0, none⟩)) 0)) fun v4 =>
 popO (SemE PG h2 (Instr.loadAt T_api_Packet v4)) fun v5 =>
 popO (SemE PG h2 (Instr.lookup T_map_api_Packet_int v3 v5 true)) fun v6 =>
 popO (SemP PG (Instr.extract v6 0)) fun v7 =>
 popO (SemP PG (Instr.extract v6 1)) fun v8 =>
 popO (SemP PG (Op.unary UnOp.not v8)) fun v9 =>
 gopV (yV v9) false (fun k12 => popO (SemP PG (Instr.fieldAt T_model_Entry (Value.pointer (some ⟨r1, 0, none⟩)) 1)) fun v13 => k12 v13 h2) h2 fun v10 h11 =>
 gopV (yV v9) false (fun k16 => popO (SemE PG h11 (Instr.loadAt T_int v10)) fun v17 => k16 v17 h11) h11 fun v14 h15 =>
 gopV (yV v9) false (fun k20 => k20 v7 h15) h15 fun v18 h19 =>
 gopV (yV v9) false (fun k23 => CallsH PG id_model_Reached #[v14, v18] h19 fun v24 h25 => k23 v24 h25) h19 fun v21 h22 =>
 gopV (yV v9) false (fun k28 => popO (SemP PG (Op.unary UnOp.not v21)) fun v29 => k28 v29 h22) h22 fun v26 h27 =>
 popO (pickV v9 (Value.bool true) v26) fun v30 =>
 R v30 h27
def model_Step_1.ann : Ann := { b := fun i => match i with  | _ => #[], ord := fun i => match i with  | _ => [], keep := fun i => match i with  | _ => [] }
theorem model_Step_1.eq (t0 : Value) (t1 : Value) (h0 : PH) (R : Value → PH → Prop) : codeH PG model_Step_1.ann (bodyOf Tryd.f20) (endH PG Tryd.f20 R) (fun t => (#[t0, t1] : Array Value).getD t undef) h0 = model_Step_1 t0 t1 h0 R := by kernel_rfl
theorem model_Step_1.call {t0 : Value} {t1 : Value} {h0 : PH} {R : Value → PH → Prop} (H : model_Step_1 t0 t1 h0 R) : CallsH PG id_model_Step_1 #[t0, t1] h0 R :=
  callsH_by model_Step_1.ann mix Tryd.func20 (by kernel_rfl) (by kernel_rfl) (by kernel_rfl) (by simp [Tryd.ntmps20]) (model_Step_1.eq t0 t1 h0 R) H

def carracklaw22_ModelTells_k109 (R : Value → PH → Prop) (n86 : List Value → PH → Prop) (t2 : Value) (t9 : Value) (t11 : Value) (t12 : Value) (h0 : PH) : Prop :=
 popO (SemP PG (binOp BinOp.add T_int t12 (Value.int IntKind.i64 1))) fun v110 =>
 n86 [t2, t9, t11, v110] h0
def carracklaw22_ModelTells_k108 (R : Value → PH → Prop) (n86 : List Value → PH → Prop) (t2 : Value) (t9 : Value) (t11 : Value) (t12 : Value) (h0 : PH) : Prop :=
 carracklaw22_ModelTells_k109 R n86 t2 t9 t11 t12 h0
def carracklaw22_ModelTells_b136 (R : Value → PH → Prop) (n135 : List Value → PH → Prop) (t14 : Value) (t15 : Value) (t16 : Value) (h0 : PH) : Prop :=
 popO (SemP PG (Builtin.len_ #[T_sl_api_Packet] T_int #[t14])) fun v137 =>
 popO (SemP PG (binOp BinOp.lss T_int t16 v137)) fun v138 =>
 condV v138
 (popO (SemP PG (Instr.indexAt T_sl_api_Packet t14 t16)) fun v139 =>
 popO (SemE PG h0 (Instr.loadAt T_api_Packet v139)) fun v140 =>
 popO (SemP PG (Instr.indexAt T_sl_api_Packet t15 t16)) fun v141 =>
 popO (SemE PG h0 (Instr.loadAt T_api_Packet v141)) fun v142 =>
 popO (SemE PG h0 (binS BinOp.neq T_api_Packet (.tmp 103) (.tmp 107) v140 v142)) fun v143 =>
 condV v143
 (R (Value.bool false) h0)
 (popO (SemP PG (binOp BinOp.add T_int t16 (Value.int IntKind.i64 1))) fun v144 =>
 n135 [t14, t15, v144] h0))
 (R (Value.bool true) h0)
def carracklaw22_ModelTells_b87 (R : Value → PH → Prop) (n86 : List Value → PH → Prop) (t2 : Value) (t9 : Value) (t11 : Value) (t12 : Value) (h0 : PH) : Prop :=
 popO (SemP PG (Builtin.len_ #[T_sl_carrackref22_Entry] T_int #[t2])) fun v88 =>
 popO (SemP PG (binOp BinOp.lss T_int t12 v88)) fun v89 =>
 condV v89
 (popO (SemP PG (Instr.indexAt T_sl_carrackref22_Entry t2 t12)) fun v90 =>
 popO (SemP PG (Instr.fieldAt T_carrackref22_Entry v90 1)) fun v91 =>
 popO (SemE PG h0 (Instr.loadAt T_int v91)) fun v92 =>
 popO (SemP PG (binOp BinOp.geq T_int v92 (Value.int IntKind.i64 0))) fun v93 =>
 gopV (yV v93) true (fun k96 => k96 v92 h0) h0 fun v94 h95 =>
 gopV (yV v93) true (fun k99 => popO (SemP PG (binOp BinOp.lss T_int v94 (Value.int IntKind.i64 5))) fun v100 => k99 v100 h95) h95 fun v97 h98 =>
 popO (pickV v93 v97 (Value.bool false)) fun v101 =>
 condV v101
 (popO (SemP PG (Instr.indexAt T_5_int t11 v92)) fun v102 =>
 popO (SemE PG h98 (Instr.loadAt T_int v102)) fun v103 =>
 popO (SemP PG (binOp BinOp.add T_int v103 (Value.int IntKind.i64 1))) fun v104 =>
 popO (SemP PG (Instr.indexAt T_5_int t11 v92)) fun v105 =>
 SemH PG (storeS T_int v105 v104) h98 fun v106 h107 =>
 carracklaw22_ModelTells_k108 R n86 t2 t9 t11 t12 h107)
 (carracklaw22_ModelTells_k108 R n86 t2 t9 t11 t12 h98))
 (CallsH PG id_model_Open #[t9] h0 fun v111 h112 =>
 CallsH PG id_carrackref22_Open #[t2] h112 fun v113 h114 =>
 popO (SemP PG (Builtin.len_ #[T_sl_api_Packet] T_int #[v111])) fun v115 =>
 popO (SemP PG (Builtin.len_ #[T_sl_api_Packet] T_int #[v113])) fun v116 =>
 popO (SemE PG h114 (binS BinOp.neq T_int (.tmp 84) (.tmp 86) v115 v116)) fun v117 =>
 gopV (yV v117) false (fun k120 => k120 t9 h114) h114 fun v118 h119 =>
 gopV (yV v117) false (fun k123 => popO (SemE PG h119 (Instr.loadAt T_5_int t11)) fun v124 => k123 v124 h119) h119 fun v121 h122 =>
 gopV (yV v117) false (fun k127 => CallsH PG id_model_Count #[v118] h122 fun v128 h129 => k127 v128 h129) h122 fun v125 h126 =>
 ((yV v117 == some false) = true → SemE PG h126 (Instr.loadAt T_5_int t11) = some v121) ∧ (gopV (yV v117) false (fun k132 => popO (SemE PG h126 (binS BinOp.neq T_5_int (.tmp 90) (.tmp 91) v125 v121)) fun v133 => k132 v133 h126) h126 fun v130 h131 =>
 popO (pickV v117 (Value.bool true) v130) fun v134 =>
 condV v134
 (R (Value.bool false) h131)
 (LoopL [14, 15, 16] (fun n135 ρ h => carracklaw22_ModelTells_b136 R n135 (ρ 14) (ρ 15) (ρ 16) h) [v111, v113, (Value.int IntKind.i64 0)] h131)))
def carracklaw22_ModelTells (t0 : Value) (t1 : Value) (t2 : Value) (t3 : Value) (h0 : PH) (R : Value → PH → Prop) : Prop :=
 CallsH PG id_carracklaw22_awake #[] h0 fun v1 h2 =>
 popO (SemP PG (Op.unary UnOp.not v1)) fun v3 =>
 condV v3
 (R (Value.bool false) h2)
 (popO (SemP PG (Builtin.len_ #[T_sl_carrackref22_Entry] T_int #[t2])) fun v4 =>
 popO (SemP PG (binOp BinOp.gtr T_int v4 (Value.int IntKind.i64 60))) fun v5 =>
 gopV (yV v5) false (fun k8 => k8 t3 h2) h2 fun v6 h7 =>
 gopV (yV v5) false (fun k11 => popO (SemP PG (Builtin.len_ #[T_sl_carrackref22_Entry] T_int #[v6])) fun v12 => k11 v12 h7) h7 fun v9 h10 =>
 gopV (yV v5) false (fun k15 => popO (SemP PG (binOp BinOp.gtr T_int v9 (Value.int IntKind.i64 60))) fun v16 => k15 v16 h10) h10 fun v13 h14 =>
 popO (pickV v5 (Value.bool true) v13) fun v17 =>
 condV v17
 (R (Value.bool true) h14)
 (CallsH PG id_carracklaw22_turned #[t2] h14 fun v18 h19 =>
 CallsH PG id_carracklaw22_turned #[t3] h19 fun v20 h21 =>
 CallsH PG id_model_Follows #[t0, t1] h21 fun v22 h23 =>
 CallsH PG id_carrackref22_Follows #[t0, t1] h23 fun v24 h25 =>
 popO (SemE PG h25 (binS BinOp.neq T_bool (.tmp 33) (.tmp 36) v22 v24)) fun v26 =>
 gopV (yV v26) false (fun k29 => k29 t0 h25) h25 fun v27 h28 =>
 gopV (yV v26) false (fun k32 => k32 t1 h28) h28 fun v30 h31 =>
 gopV (yV v26) false (fun k35 => CallsH PG id_model_Reached #[v27, v30] h31 fun v36 h37 => k35 v36 h37) h31 fun v33 h34 =>
 gopV (yV v26) false (fun k40 => k40 t0 h34) h34 fun v38 h39 =>
 gopV (yV v26) false (fun k43 => k43 t1 h39) h39 fun v41 h42 =>
 gopV (yV v26) false (fun k46 => CallsH PG id_carrackref22_Reached #[v38, v41] h42 fun v47 h48 => k46 v47 h48) h42 fun v44 h45 =>
 gopV (yV v26) false (fun k51 => popO (SemE PG h45 (binS BinOp.neq T_bool (.tmp 41) (.tmp 44) v33 v44)) fun v52 => k51 v52 h45) h45 fun v49 h50 =>
 popO (pickV v26 (Value.bool true) v49) fun v53 =>
 gopV (yV v53) false (fun k56 => k56 v18 h50) h50 fun v54 h55 =>
 gopV (yV v53) false (fun k59 => k59 v20 h55) h55 fun v57 h58 =>
 gopV (yV v53) false (fun k62 => CallsH PG id_model_Step #[v54, v57] h58 fun v63 h64 => k62 v63 h64) h58 fun v60 h61 =>
 gopV (yV v53) false (fun k67 => k67 t2 h61) h61 fun v65 h66 =>
 gopV (yV v53) false (fun k70 => k70 t3 h66) h66 fun v68 h69 =>
 gopV (yV v53) false (fun k73 => CallsH PG id_carrackref22_Step #[v65, v68] h69 fun v74 h75 => k73 v74 h75) h69 fun v71 h72 =>
 gopV (yV v53) false (fun k78 => popO (SemE PG h72 (binS BinOp.neq T_bool (.tmp 50) (.tmp 53) v60 v71)) fun v79 => k78 v79 h72) h72 fun v76 h77 =>
 popO (pickV v53 (Value.bool true) v76) fun v80 =>
 condV v80
 (R (Value.bool false) h77)
 (popO (SemP PG (Instr.build T_5_int #[])) fun v81 =>
 ∀ r82, h77 r82 = none → bindH (PH.set h77 r82 (.cells (zcells PG T_5_int) T_5_int)) fun h83 =>
 SemH PG (storeS T_5_int (Value.pointer (some ⟨r82, 0, none⟩)) v81) h83 fun v84 h85 =>
 LoopL [2, 9, 11, 12] (fun n86 ρ h => carracklaw22_ModelTells_b87 R n86 (ρ 2) (ρ 9) (ρ 11) (ρ 12) h) [t2, v18, (Value.pointer (some ⟨r82, 0, none⟩)), (Value.int IntKind.i64 0)] h85)))
def carracklaw22_ModelTells.ann : Ann := { b := fun i => match i with | 16 => #[0, 1, 0, 4, 15, 31, 63, 127, 63, 511, 1023] | 21 => #[0, 0, 3, 7, 0, 0, 48, 112, 255] | _ => #[], ord := fun i => match i with | 16 => [0, 1, 2, 3, 4, 5, 6, 8, 7, 9, 10] | 21 => [0, 1, 2, 3, 4, 5, 6, 7, 8] | _ => [], keep := fun i => match i with | 10 => [2, 9, 11, 12] | 19 => [14, 15, 16] | _ => [] }
theorem carracklaw22_ModelTells.eq (t0 : Value) (t1 : Value) (t2 : Value) (t3 : Value) (h0 : PH) (R : Value → PH → Prop) : codeH PG carracklaw22_ModelTells.ann (bodyOf Tryd.f4) (endH PG Tryd.f4 R) (fun t => (#[t0, t1, t2, t3] : Array Value).getD t undef) h0 = carracklaw22_ModelTells t0 t1 t2 t3 h0 R := by kernel_rfl
theorem carracklaw22_ModelTells.call {t0 : Value} {t1 : Value} {t2 : Value} {t3 : Value} {h0 : PH} {R : Value → PH → Prop} (H : carracklaw22_ModelTells t0 t1 t2 t3 h0 R) : CallsH PG id_carracklaw22_ModelTells #[t0, t1, t2, t3] h0 R :=
  callsH_by carracklaw22_ModelTells.ann mix Tryd.func4 (by kernel_rfl) (by kernel_rfl) (by kernel_rfl) (by simp [Tryd.ntmps4]) (carracklaw22_ModelTells.eq t0 t1 t2 t3 h0 R) H

def carracklaw22_turned_b2 (R : Value → PH → Prop) (n1 : List Value → PH → Prop) (t0 : Value) (t3 : Value) (t4 : Value) (h0 : PH) : Prop :=
 popO (SemP PG (Builtin.len_ #[T_sl_carrackref22_Entry] T_int #[t0])) fun v3 =>
 popO (SemP PG (binOp BinOp.lss T_int t4 v3)) fun v4 =>
 condV v4
 (popO (SemP PG (Instr.indexAt T_sl_carrackref22_Entry t0 t4)) fun v5 =>
 popO (SemP PG (Instr.fieldAt T_carrackref22_Entry v5 0)) fun v6 =>
 popO (SemE PG h0 (Instr.loadAt T_api_Packet v6)) fun v7 =>
 popO (SemP PG (Instr.indexAt T_sl_carrackref22_Entry t0 t4)) fun v8 =>
 popO (SemP PG (Instr.fieldAt T_carrackref22_Entry v8 1)) fun v9 =>
 popO (SemE PG h0 (Instr.loadAt T_int v9)) fun v10 =>
 popO (SemP PG (Instr.build T_model_Entry #[(0, v7), (1, v10)])) fun v11 =>
 popO (SemA PG (Instr.buildSlice T_sl_model_Entry 1 #[(0, v11)])) fun x13 => ∀ r12, h0 r12 = none → popO (SemP PG (x13.2 r12)) fun v14 => bindH (PH.set h0 r12 x13.1) fun h15 =>
 SemH PG (Builtin.append_ #[T_sl_model_Entry, T_sl_model_Entry] T_sl_model_Entry #[t3, v14]) h15 fun v16 h17 =>
 (popO (SemP PG (binOp BinOp.add T_int t4 (Value.int IntKind.i64 1))) fun v18 =>
 n1 [t0, v16, v18] h17))
 (R t3 h0)
def carracklaw22_turned (t0 : Value) (h0 : PH) (R : Value → PH → Prop) : Prop :=
 LoopL [0, 3, 4] (fun n1 ρ h => carracklaw22_turned_b2 R n1 (ρ 0) (ρ 3) (ρ 4) h) [t0, (Value.slice none 0 0), (Value.int IntKind.i64 0)] h0
def carracklaw22_turned.ann : Ann := { b := fun i => match i with | 5 => #[0, 0, 0, 6, 14, 30, 0, 0, 192, 448, 960, 2046, 4094, 8191, 16383] | _ => #[], ord := fun i => match i with | 5 => [0, 1, 2, 3, 4, 5, 6, 7, 8, 9, 10, 11, 12, 13, 14] | _ => [], keep := fun i => match i with | 3 => [0, 3, 4] | _ => [] }
theorem carracklaw22_turned.eq (t0 : Value) (h0 : PH) (R : Value → PH → Prop) : codeH PG carracklaw22_turned.ann (bodyOf Tryd.f12) (endH PG Tryd.f12 R) (fun t => (#[t0] : Array Value).getD t undef) h0 = carracklaw22_turned t0 h0 R := by kernel_rfl
theorem carracklaw22_turned.call {t0 : Value} {h0 : PH} {R : Value → PH → Prop} (H : carracklaw22_turned t0 h0 R) : CallsH PG id_carracklaw22_turned #[t0] h0 R :=
  callsH_by carracklaw22_turned.ann mix Tryd.func12 (by kernel_rfl) (by kernel_rfl) (by kernel_rfl) (by simp [Tryd.ntmps12]) (carracklaw22_turned.eq t0 h0 R) H

def carrackref22_Follows (t0 : Value) (t1 : Value) (h0 : PH) (R : Value → PH → Prop) : Prop :=
 popO (SemE PG h0 (binS BinOp.eql T_int (.tmp 5) (.const (Value.int IntKind.i64 0)) t0 (Value.int IntKind.i64 0))) fun v1 =>
 gopV (yV v1) true (fun k4 => k4 t1 h0) h0 fun v2 h3 =>
 gopV (yV v1) true (fun k7 => popO (SemE PG h3 (binS BinOp.eql T_int (.tmp 8) (.const (Value.int IntKind.i64 1)) v2 (Value.int IntKind.i64 1))) fun v8 => k7 v8 h3) h3 fun v5 h6 =>
 popO (pickV v1 v5 (Value.bool false)) fun v9 =>
 gopV (yV v9) false (fun k12 => k12 t0 h6) h6 fun v10 h11 =>
 gopV (yV v9) false (fun k15 => popO (SemE PG h11 (binS BinOp.eql T_int (.tmp 12) (.const (Value.int IntKind.i64 1)) v10 (Value.int IntKind.i64 1))) fun v16 => k15 v16 h11) h11 fun v13 h14 =>
 gopV (yV v9) false (fun k19 => k19 v13 h14) h14 fun v17 h18 =>
 gopV (yV v17) true (fun k22 => k22 t1 h18) h18 fun v20 h21 =>
 gopV (yV v17) true (fun k25 => popO (SemE PG h21 (binS BinOp.eql T_int (.tmp 15) (.const (Value.int IntKind.i64 2)) v20 (Value.int IntKind.i64 2))) fun v26 => k25 v26 h21) h21 fun v23 h24 =>
 gopV (yV v9) false (fun k29 => popO (pickV v17 v23 (Value.bool false)) fun v30 => k29 v30 h24) h24 fun v27 h28 =>
 popO (pickV v9 (Value.bool true) v27) fun v31 =>
 gopV (yV v31) false (fun k34 => k34 t0 h28) h28 fun v32 h33 =>
 gopV (yV v31) false (fun k37 => popO (SemE PG h33 (binS BinOp.eql T_int (.tmp 20) (.const (Value.int IntKind.i64 1)) v32 (Value.int IntKind.i64 1))) fun v38 => k37 v38 h33) h33 fun v35 h36 =>
 gopV (yV v31) false (fun k41 => k41 v35 h36) h36 fun v39 h40 =>
 gopV (yV v39) true (fun k44 => k44 t1 h40) h40 fun v42 h43 =>
 gopV (yV v39) true (fun k47 => popO (SemE PG h43 (binS BinOp.eql T_int (.tmp 23) (.const (Value.int IntKind.i64 4)) v42 (Value.int IntKind.i64 4))) fun v48 => k47 v48 h43) h43 fun v45 h46 =>
 gopV (yV v31) false (fun k51 => popO (pickV v39 v45 (Value.bool false)) fun v52 => k51 v52 h46) h46 fun v49 h50 =>
 popO (pickV v31 (Value.bool true) v49) fun v53 =>
 gopV (yV v53) false (fun k56 => k56 t0 h50) h50 fun v54 h55 =>
 gopV (yV v53) false (fun k59 => popO (SemE PG h55 (binS BinOp.eql T_int (.tmp 28) (.const (Value.int IntKind.i64 2)) v54 (Value.int IntKind.i64 2))) fun v60 => k59 v60 h55) h55 fun v57 h58 =>
 gopV (yV v53) false (fun k63 => k63 v57 h58) h58 fun v61 h62 =>
 gopV (yV v61) true (fun k66 => k66 t1 h62) h62 fun v64 h65 =>
 gopV (yV v61) true (fun k69 => popO (SemE PG h65 (binS BinOp.eql T_int (.tmp 31) (.const (Value.int IntKind.i64 3)) v64 (Value.int IntKind.i64 3))) fun v70 => k69 v70 h65) h65 fun v67 h68 =>
 gopV (yV v53) false (fun k73 => popO (pickV v61 v67 (Value.bool false)) fun v74 => k73 v74 h68) h68 fun v71 h72 =>
 popO (pickV v53 (Value.bool true) v71) fun v75 =>
 R v75 h72
def carrackref22_Follows.ann : Ann := { b := fun i => match i with  | _ => #[], ord := fun i => match i with  | _ => [], keep := fun i => match i with  | _ => [] }
theorem carrackref22_Follows.eq (t0 : Value) (t1 : Value) (h0 : PH) (R : Value → PH → Prop) : codeH PG carrackref22_Follows.ann (bodyOf Tryd.f13) (endH PG Tryd.f13 R) (fun t => (#[t0, t1] : Array Value).getD t undef) h0 = carrackref22_Follows t0 t1 h0 R := by kernel_rfl
theorem carrackref22_Follows.call {t0 : Value} {t1 : Value} {h0 : PH} {R : Value → PH → Prop} (H : carrackref22_Follows t0 t1 h0 R) : CallsH PG id_carrackref22_Follows #[t0, t1] h0 R :=
  callsH_by carrackref22_Follows.ann mix Tryd.func13 (by kernel_rfl) (by kernel_rfl) (by kernel_rfl) (by simp [Tryd.ntmps13]) (carrackref22_Follows.eq t0 t1 h0 R) H

def carrackref22_Reached_k57 (R : Value → PH → Prop) (n32 : List Value → PH → Prop) (n35 : List Value → PH → Prop) (n38 : List Value → PH → Prop) (t1 : Value) (t5 : Value) (t6 : Value) (t7 : Value) (t8 : Value) (h0 : PH) : Prop :=
 popO (SemP PG (binOp BinOp.add T_int t8 (Value.int IntKind.i64 1))) fun v58 =>
 n38 [t1, t5, t6, t7, v58] h0
def carrackref22_Reached_k56 (R : Value → PH → Prop) (n32 : List Value → PH → Prop) (n35 : List Value → PH → Prop) (n38 : List Value → PH → Prop) (t1 : Value) (t5 : Value) (t6 : Value) (t7 : Value) (t8 : Value) (h0 : PH) : Prop :=
 carrackref22_Reached_k57 R n32 n35 n38 t1 t5 t6 t7 t8 h0
def carrackref22_Reached_b39 (R : Value → PH → Prop) (n32 : List Value → PH → Prop) (n35 : List Value → PH → Prop) (n38 : List Value → PH → Prop) (t1 : Value) (t5 : Value) (t6 : Value) (t7 : Value) (t8 : Value) (h0 : PH) : Prop :=
 popO (SemP PG (binOp BinOp.lss T_int t8 (Value.int IntKind.i64 5))) fun v40 =>
 condV v40
 (popO (SemE PG h0 (Instr.lookup T_map_int_bool t5 t7 false)) fun v41 =>
 gopV (yV v41) true (fun k44 => k44 t7 h0) h0 fun v42 h43 =>
 gopV (yV v41) true (fun k47 => k47 t8 h43) h43 fun v45 h46 =>
 gopV (yV v41) true (fun k50 => CallsH PG id_carrackref22_Follows #[v42, v45] h46 fun v51 h52 => k50 v51 h52) h46 fun v48 h49 =>
 popO (pickV v41 v48 (Value.bool false)) fun v53 =>
 condV v53
 (SemH PG (mapUpdS T_map_int_bool t5 t8 (Value.bool true)) h49 fun v54 h55 =>
 carrackref22_Reached_k56 R n32 n35 n38 t1 t5 t6 t7 t8 h55)
 (carrackref22_Reached_k56 R n32 n35 n38 t1 t5 t6 t7 t8 h49))
 (popO (SemP PG (binOp BinOp.add T_int t7 (Value.int IntKind.i64 1))) fun v59 =>
 n35 [t1, t5, t6, v59] h0)
def carrackref22_Reached_b36 (R : Value → PH → Prop) (n32 : List Value → PH → Prop) (n35 : List Value → PH → Prop) (t1 : Value) (t5 : Value) (t6 : Value) (t7 : Value) (h0 : PH) : Prop :=
 popO (SemP PG (binOp BinOp.lss T_int t7 (Value.int IntKind.i64 5))) fun v37 =>
 condV v37
 (LoopL [1, 5, 6, 7, 8] (fun n38 ρ h => carrackref22_Reached_b39 R n32 n35 n38 (ρ 1) (ρ 5) (ρ 6) (ρ 7) (ρ 8) h) [t1, t5, t6, t7, (Value.int IntKind.i64 0)] h0)
 (popO (SemP PG (binOp BinOp.add T_int t6 (Value.int IntKind.i64 1))) fun v60 =>
 n32 [t1, t5, v60] h0)
def carrackref22_Reached_b33 (R : Value → PH → Prop) (n32 : List Value → PH → Prop) (t1 : Value) (t5 : Value) (t6 : Value) (h0 : PH) : Prop :=
 popO (SemP PG (binOp BinOp.lss T_int t6 (Value.int IntKind.i64 5))) fun v34 =>
 condV v34
 (LoopL [1, 5, 6, 7] (fun n35 ρ h => carrackref22_Reached_b36 R n32 n35 (ρ 1) (ρ 5) (ρ 6) (ρ 7) h) [t1, t5, t6, (Value.int IntKind.i64 0)] h0)
 (popO (SemE PG h0 (Instr.lookup T_map_int_bool t5 t1 false)) fun v61 =>
 R v61 h0)
def carrackref22_Reached (t0 : Value) (t1 : Value) (h0 : PH) (R : Value → PH → Prop) : Prop :=
 popO (SemP PG (binOp BinOp.lss T_int t0 (Value.int IntKind.i64 0))) fun v1 =>
 gopV (yV v1) false (fun k4 => k4 t0 h0) h0 fun v2 h3 =>
 gopV (yV v1) false (fun k7 => popO (SemP PG (binOp BinOp.gtr T_int v2 (Value.int IntKind.i64 4))) fun v8 => k7 v8 h3) h3 fun v5 h6 =>
 popO (pickV v1 (Value.bool true) v5) fun v9 =>
 gopV (yV v9) false (fun k12 => k12 t1 h6) h6 fun v10 h11 =>
 gopV (yV v9) false (fun k15 => popO (SemP PG (binOp BinOp.lss T_int v10 (Value.int IntKind.i64 0))) fun v16 => k15 v16 h11) h11 fun v13 h14 =>
 popO (pickV v9 (Value.bool true) v13) fun v17 =>
 gopV (yV v17) false (fun k20 => k20 t1 h14) h14 fun v18 h19 =>
 gopV (yV v17) false (fun k23 => popO (SemP PG (binOp BinOp.gtr T_int v18 (Value.int IntKind.i64 4))) fun v24 => k23 v24 h19) h19 fun v21 h22 =>
 popO (pickV v17 (Value.bool true) v21) fun v25 =>
 condV v25
 (R (Value.bool false) h22)
 (popO (SemA PG (Instr.makeMap T_map_int_bool none)) fun x27 => ∀ r26, h22 r26 = none → popO (SemP PG (x27.2 r26)) fun v28 => bindH (PH.set h22 r26 x27.1) fun h29 =>
 SemH PG (mapUpdS T_map_int_bool v28 t0 (Value.bool true)) h29 fun v30 h31 =>
 LoopL [1, 5, 6] (fun n32 ρ h => carrackref22_Reached_b33 R n32 (ρ 1) (ρ 5) (ρ 6) h) [t1, v28, (Value.int IntKind.i64 0)] h31)
def carrackref22_Reached.ann : Ann := { b := fun i => match i with  | _ => #[], ord := fun i => match i with  | _ => [], keep := fun i => match i with | 5 => [1, 5, 6] | 8 => [1, 5, 6, 7] | 11 => [1, 5, 6, 7, 8] | _ => [] }
theorem carrackref22_Reached.eq (t0 : Value) (t1 : Value) (h0 : PH) (R : Value → PH → Prop) : codeH PG carrackref22_Reached.ann (bodyOf Tryd.f14) (endH PG Tryd.f14 R) (fun t => (#[t0, t1] : Array Value).getD t undef) h0 = carrackref22_Reached t0 t1 h0 R := by kernel_rfl
theorem carrackref22_Reached.call {t0 : Value} {t1 : Value} {h0 : PH} {R : Value → PH → Prop} (H : carrackref22_Reached t0 t1 h0 R) : CallsH PG id_carrackref22_Reached #[t0, t1] h0 R :=
  callsH_by carrackref22_Reached.ann mix Tryd.func14 (by kernel_rfl) (by kernel_rfl) (by kernel_rfl) (by simp [Tryd.ntmps14]) (carrackref22_Reached.eq t0 t1 h0 R) H

def carrackref22_Step_b6 (R : Value → PH → Prop) (n1 : List Value → PH → Prop) (n5 : List Value → PH → Prop) (t0 : Value) (t1 : Value) (t5 : Value) (t6 : Value) (h0 : PH) : Prop :=
 popO (SemP PG (Builtin.len_ #[T_sl_carrackref22_Entry] T_int #[t1])) fun v7 =>
 popO (SemP PG (binOp BinOp.lss T_int t6 v7)) fun v8 =>
 gopV (yV v8) true (fun k11 => k11 t1 h0) h0 fun v9 h10 =>
 gopV (yV v8) true (fun k14 => k14 t6 h10) h10 fun v12 h13 =>
 gopV (yV v8) true (fun k17 => popO (SemP PG (Instr.indexAt T_sl_carrackref22_Entry v9 v12)) fun v18 => k17 v18 h13) h13 fun v15 h16 =>
 gopV (yV v8) true (fun k21 => popO (SemP PG (Instr.fieldAt T_carrackref22_Entry v15 0)) fun v22 => k21 v22 h16) h16 fun v19 h20 =>
 gopV (yV v8) true (fun k25 => popO (SemE PG h20 (Instr.loadAt T_api_Packet v19)) fun v26 => k25 v26 h20) h20 fun v23 h24 =>
 gopV (yV v8) true (fun k29 => k29 t0 h24) h24 fun v27 h28 =>
 gopV (yV v8) true (fun k32 => k32 t5 h28) h28 fun v30 h31 =>
 gopV (yV v8) true (fun k35 => popO (SemP PG (Instr.indexAt T_sl_carrackref22_Entry v27 v30)) fun v36 => k35 v36 h31) h31 fun v33 h34 =>
 gopV (yV v8) true (fun k39 => popO (SemP PG (Instr.fieldAt T_carrackref22_Entry v33 0)) fun v40 => k39 v40 h34) h34 fun v37 h38 =>
 gopV (yV v8) true (fun k43 => popO (SemE PG h38 (Instr.loadAt T_api_Packet v37)) fun v44 => k43 v44 h38) h38 fun v41 h42 =>
 gopV (yV v8) true (fun k47 => popO (SemE PG h42 (binS BinOp.neq T_api_Packet (.tmp 22) (.tmp 27) v23 v41)) fun v48 => k47 v48 h42) h42 fun v45 h46 =>
 popO (pickV v8 v45 (Value.bool false)) fun v49 =>
 condV v49
 (popO (SemP PG (binOp BinOp.add T_int t6 (Value.int IntKind.i64 1))) fun v50 =>
 n5 [t0, t1, t5, v50] h46)
 (popO (SemP PG (Builtin.len_ #[T_sl_carrackref22_Entry] T_int #[t1])) fun v51 =>
 popO (SemE PG h46 (binS BinOp.eql T_int (.tmp 32) (.tmp 34) t6 v51)) fun v52 =>
 gopV (yV v52) false (fun k55 => k55 t0 h46) h46 fun v53 h54 =>
 gopV (yV v52) false (fun k58 => k58 t5 h54) h54 fun v56 h57 =>
 gopV (yV v52) false (fun k61 => popO (SemP PG (Instr.indexAt T_sl_carrackref22_Entry v53 v56)) fun v62 => k61 v62 h57) h57 fun v59 h60 =>
 gopV (yV v52) false (fun k65 => popO (SemP PG (Instr.fieldAt T_carrackref22_Entry v59 1)) fun v66 => k65 v66 h60) h60 fun v63 h64 =>
 gopV (yV v52) false (fun k69 => popO (SemE PG h64 (Instr.loadAt T_int v63)) fun v70 => k69 v70 h64) h64 fun v67 h68 =>
 gopV (yV v52) false (fun k73 => k73 t1 h68) h68 fun v71 h72 =>
 gopV (yV v52) false (fun k76 => k76 t6 h72) h72 fun v74 h75 =>
 gopV (yV v52) false (fun k79 => popO (SemP PG (Instr.indexAt T_sl_carrackref22_Entry v71 v74)) fun v80 => k79 v80 h75) h75 fun v77 h78 =>
 gopV (yV v52) false (fun k83 => popO (SemP PG (Instr.fieldAt T_carrackref22_Entry v77 1)) fun v84 => k83 v84 h78) h78 fun v81 h82 =>
 gopV (yV v52) false (fun k87 => popO (SemE PG h82 (Instr.loadAt T_int v81)) fun v88 => k87 v88 h82) h82 fun v85 h86 =>
 gopV (yV v52) false (fun k91 => CallsH PG id_carrackref22_Reached #[v67, v85] h86 fun v92 h93 => k91 v92 h93) h86 fun v89 h90 =>
 (gopV (yV v52) false (fun k96 => popO (SemP PG (Op.unary UnOp.not v89)) fun v97 => k96 v97 h90) h90 fun v94 h95 =>
 popO (pickV v52 (Value.bool true) v94) fun v98 =>
 condV v98
 (R (Value.bool false) h95)
 (popO (SemP PG (binOp BinOp.add T_int t5 (Value.int IntKind.i64 1))) fun v99 =>
 n1 [t0, t1, v99] h95)))
def carrackref22_Step_b2 (R : Value → PH → Prop) (n1 : List Value → PH → Prop) (t0 : Value) (t1 : Value) (t5 : Value) (h0 : PH) : Prop :=
 popO (SemP PG (Builtin.len_ #[T_sl_carrackref22_Entry] T_int #[t0])) fun v3 =>
 popO (SemP PG (binOp BinOp.lss T_int t5 v3)) fun v4 =>
 condV v4
 (LoopL [0, 1, 5, 6] (fun n5 ρ h => carrackref22_Step_b6 R n1 n5 (ρ 0) (ρ 1) (ρ 5) (ρ 6) h) [t0, t1, t5, (Value.int IntKind.i64 0)] h0)
 (R (Value.bool true) h0)
def carrackref22_Step (t0 : Value) (t1 : Value) (h0 : PH) (R : Value → PH → Prop) : Prop :=
 LoopL [0, 1, 5] (fun n1 ρ h => carrackref22_Step_b2 R n1 (ρ 0) (ρ 1) (ρ 5) h) [t0, t1, (Value.int IntKind.i64 0)] h0
def carrackref22_Step.ann : Ann := { b := fun i => match i with | 5 => #[0, 0, 2, 7, 15, 31, 31, 127, 255, 511, 31, 31, 3103, 7199, 15391, 32767, 65535] | 7 => #[0, 0, 2, 7, 15, 31, 31, 127, 255, 511, 31, 31, 3103, 7199, 15391, 32767, 65535, 131071] | _ => #[], ord := fun i => match i with | 5 => [0, 1, 2, 3, 4, 5, 6, 7, 8, 9, 10, 11, 12, 13, 14, 15, 16] | 7 => [0, 1, 2, 3, 4, 5, 6, 7, 8, 9, 10, 11, 12, 13, 14, 15, 16, 17] | _ => [], keep := fun i => match i with | 2 => [0, 1, 5] | 5 => [0, 1, 5, 6] | _ => [] }
theorem carrackref22_Step.eq (t0 : Value) (t1 : Value) (h0 : PH) (R : Value → PH → Prop) : codeH PG carrackref22_Step.ann (bodyOf Tryd.f15) (endH PG Tryd.f15 R) (fun t => (#[t0, t1] : Array Value).getD t undef) h0 = carrackref22_Step t0 t1 h0 R := by kernel_rfl
theorem carrackref22_Step.call {t0 : Value} {t1 : Value} {h0 : PH} {R : Value → PH → Prop} (H : carrackref22_Step t0 t1 h0 R) : CallsH PG id_carrackref22_Step #[t0, t1] h0 R :=
  callsH_by carrackref22_Step.ann mix Tryd.func15 (by kernel_rfl) (by kernel_rfl) (by kernel_rfl) (by simp [Tryd.ntmps15]) (carrackref22_Step.eq t0 t1 h0 R) H

def model_Open_k36 (R : Value → PH → Prop) (n2 : List Value → PH → Prop) (t3 : Value) (t6 : Value) (t7 : Value) (t8 : Value) (h0 : PH) : Prop :=
 popO (SemP PG (binOp BinOp.add T_int t8 (Value.int IntKind.i64 1))) fun v37 =>
 n2 [t3, t6, t7, v37] h0
def model_Open_k35 (R : Value → PH → Prop) (n2 : List Value → PH → Prop) (t3 : Value) (t6 : Value) (t7 : Value) (t8 : Value) (h0 : PH) : Prop :=
 model_Open_k36 R n2 t3 t6 t7 t8 h0
def model_Open_b3 (R : Value → PH → Prop) (n2 : List Value → PH → Prop) (t3 : Value) (t6 : Value) (t7 : Value) (t8 : Value) (h0 : PH) : Prop :=
 popO (SemP PG (binOp BinOp.lss T_int t8 t7)) fun v4 =>
 condV v4
 (popO (SemP PG (Instr.indexAt T_sl_model_Entry t6 t8)) fun v5 =>
 popO (SemE PG h0 (Instr.loadAt T_model_Entry v5)) fun v6 =>
 ∀ r7, h0 r7 = none → bindH (PH.set h0 r7 (.cells (zcells PG T_model_Entry) T_model_Entry)) fun h8 =>
 SemH PG (storeS T_model_Entry (Value.pointer (some ⟨r7, 0, none⟩)) v6) h8 fun v9 h10 =>
 popO (SemP PG (Instr.fieldAt T_model_Entry (Value.pointer (some ⟨r7, 0, none⟩)) 1)) fun v11 =>
 popO (SemE PG h10 (Instr.loadAt T_int v11)) fun v12 =>
 popO (SemE PG h10 (binS BinOp.eql T_int (.tmp 13) (.const (Value.int IntKind.i64 1)) v12 (Value.int IntKind.i64 1))) fun v13 =>
 gopV (yV v13) false (fun k16 => popO (SemP PG (Instr.fieldAt T_model_Entry (Value.pointer (some ⟨r7, 0, none⟩)) 1)) fun v17 => k16 v17 h10) h10 fun v14 h15 =>
 gopV (yV v13) false (fun k20 => popO (SemE PG h15 (Instr.loadAt T_int v14)) fun v21 => k20 v21 h15) h15 fun v18 h19 =>
 gopV (yV v13) false (fun k24 => popO (SemE PG h19 (binS BinOp.eql T_int (.tmp 17) (.const (Value.int IntKind.i64 2)) v18 (Value.int IntKind.i64 2))) fun v25 => k24 v25 h19) h19 fun v22 h23 =>
 popO (pickV v13 (Value.bool true) v22) fun v26 =>
 condV v26
 (popO (SemP PG (Instr.fieldAt T_model_Entry (Value.pointer (some ⟨r7, 0, none⟩)) 0)) fun v27 =>
 popO (SemE PG h23 (Instr.loadAt T_api_Packet v27)) fun v28 =>
 popO (SemA PG (Instr.buildSlice T_sl_api_Packet 1 #[(0, v28)])) fun x30 => ∀ r29, h23 r29 = none → popO (SemP PG (x30.2 r29)) fun v31 => bindH (PH.set h23 r29 x30.1) fun h32 =>
 SemH PG (Builtin.append_ #[T_sl_api_Packet, T_sl_api_Packet] T_sl_api_Packet #[t3, v31]) h32 fun v33 h34 =>
 model_Open_k35 R n2 v33 t6 t7 t8 h34)
 (model_Open_k35 R n2 t3 t6 t7 t8 h23))
 (R t3 h0)
def model_Open (t0 : Value) (h0 : PH) (R : Value → PH → Prop) : Prop :=
 popO (SemP PG (Builtin.len_ #[T_sl_model_Entry] T_int #[t0])) fun v1 =>
 LoopL [3, 6, 7, 8] (fun n2 ρ h => model_Open_b3 R n2 (ρ 3) (ρ 6) (ρ 7) (ρ 8) h) [(Value.slice none 0 0), t0, v1, (Value.int IntKind.i64 0)] h0
def model_Open.ann : Ann := { b := fun i => match i with  | _ => #[], ord := fun i => match i with  | _ => [], keep := fun i => match i with | 3 => [3, 6, 7, 8] | _ => [] }
theorem model_Open.eq (t0 : Value) (h0 : PH) (R : Value → PH → Prop) : codeH PG model_Open.ann (bodyOf Tryd.f16) (endH PG Tryd.f16 R) (fun t => (#[t0] : Array Value).getD t undef) h0 = model_Open t0 h0 R := by kernel_rfl
theorem model_Open.call {t0 : Value} {h0 : PH} {R : Value → PH → Prop} (H : model_Open t0 h0 R) : CallsH PG id_model_Open #[t0] h0 R :=
  callsH_by model_Open.ann mix Tryd.func16 (by kernel_rfl) (by kernel_rfl) (by kernel_rfl) (by simp [Tryd.ntmps16]) (model_Open.eq t0 h0 R) H

def carrackref22_Open_k42 (R : Value → PH → Prop) (n1 : List Value → PH → Prop) (t0 : Value) (t3 : Value) (t4 : Value) (h0 : PH) : Prop :=
 popO (SemP PG (binOp BinOp.add T_int t4 (Value.int IntKind.i64 1))) fun v43 =>
 n1 [t0, t3, v43] h0
def carrackref22_Open_k41 (R : Value → PH → Prop) (n1 : List Value → PH → Prop) (t0 : Value) (t3 : Value) (t4 : Value) (h0 : PH) : Prop :=
 carrackref22_Open_k42 R n1 t0 t3 t4 h0
def carrackref22_Open_b2 (R : Value → PH → Prop) (n1 : List Value → PH → Prop) (t0 : Value) (t3 : Value) (t4 : Value) (h0 : PH) : Prop :=
 popO (SemP PG (Builtin.len_ #[T_sl_carrackref22_Entry] T_int #[t0])) fun v3 =>
 popO (SemP PG (binOp BinOp.lss T_int t4 v3)) fun v4 =>
 condV v4
 (popO (SemP PG (Instr.indexAt T_sl_carrackref22_Entry t0 t4)) fun v5 =>
 popO (SemP PG (Instr.fieldAt T_carrackref22_Entry v5 1)) fun v6 =>
 popO (SemE PG h0 (Instr.loadAt T_int v6)) fun v7 =>
 popO (SemE PG h0 (binS BinOp.eql T_int (.tmp 15) (.const (Value.int IntKind.i64 1)) v7 (Value.int IntKind.i64 1))) fun v8 =>
 gopV (yV v8) false (fun k11 => k11 t0 h0) h0 fun v9 h10 =>
 gopV (yV v8) false (fun k14 => k14 t4 h10) h10 fun v12 h13 =>
 gopV (yV v8) false (fun k17 => popO (SemP PG (Instr.indexAt T_sl_carrackref22_Entry v9 v12)) fun v18 => k17 v18 h13) h13 fun v15 h16 =>
 gopV (yV v8) false (fun k21 => popO (SemP PG (Instr.fieldAt T_carrackref22_Entry v15 1)) fun v22 => k21 v22 h16) h16 fun v19 h20 =>
 gopV (yV v8) false (fun k25 => popO (SemE PG h20 (Instr.loadAt T_int v19)) fun v26 => k25 v26 h20) h20 fun v23 h24 =>
 gopV (yV v8) false (fun k29 => popO (SemE PG h24 (binS BinOp.eql T_int (.tmp 22) (.const (Value.int IntKind.i64 2)) v23 (Value.int IntKind.i64 2))) fun v30 => k29 v30 h24) h24 fun v27 h28 =>
 popO (pickV v8 (Value.bool true) v27) fun v31 =>
 condV v31
 (popO (SemP PG (Instr.indexAt T_sl_carrackref22_Entry t0 t4)) fun v32 =>
 popO (SemP PG (Instr.fieldAt T_carrackref22_Entry v32 0)) fun v33 =>
 popO (SemE PG h28 (Instr.loadAt T_api_Packet v33)) fun v34 =>
 popO (SemA PG (Instr.buildSlice T_sl_api_Packet 1 #[(0, v34)])) fun x36 => ∀ r35, h28 r35 = none → popO (SemP PG (x36.2 r35)) fun v37 => bindH (PH.set h28 r35 x36.1) fun h38 =>
 SemH PG (Builtin.append_ #[T_sl_api_Packet, T_sl_api_Packet] T_sl_api_Packet #[t3, v37]) h38 fun v39 h40 =>
 carrackref22_Open_k41 R n1 t0 v39 t4 h40)
 (carrackref22_Open_k41 R n1 t0 t3 t4 h28))
 (R t3 h0)
def carrackref22_Open (t0 : Value) (h0 : PH) (R : Value → PH → Prop) : Prop :=
 LoopL [0, 3, 4] (fun n1 ρ h => carrackref22_Open_b2 R n1 (ρ 0) (ρ 3) (ρ 4) h) [t0, (Value.slice none 0 0), (Value.int IntKind.i64 0)] h0
def carrackref22_Open.ann : Ann := { b := fun i => match i with  | _ => #[], ord := fun i => match i with  | _ => [], keep := fun i => match i with | 3 => [0, 3, 4] | _ => [] }
theorem carrackref22_Open.eq (t0 : Value) (h0 : PH) (R : Value → PH → Prop) : codeH PG carrackref22_Open.ann (bodyOf Tryd.f17) (endH PG Tryd.f17 R) (fun t => (#[t0] : Array Value).getD t undef) h0 = carrackref22_Open t0 h0 R := by kernel_rfl
theorem carrackref22_Open.call {t0 : Value} {h0 : PH} {R : Value → PH → Prop} (H : carrackref22_Open t0 h0 R) : CallsH PG id_carrackref22_Open #[t0] h0 R :=
  callsH_by carrackref22_Open.ann mix Tryd.func17 (by kernel_rfl) (by kernel_rfl) (by kernel_rfl) (by simp [Tryd.ntmps17]) (carrackref22_Open.eq t0 h0 R) H

def model_Count_k28 (R : Value → PH → Prop) (n6 : List Value → PH → Prop) (t2 : Value) (t3 : Value) (t6 : Value) (t7 : Value) (t8 : Value) (h0 : PH) : Prop :=
 popO (SemP PG (binOp BinOp.add T_int t8 (Value.int IntKind.i64 1))) fun v29 =>
 n6 [t2, t3, t6, t7, v29] h0
def model_Count_k27 (R : Value → PH → Prop) (n6 : List Value → PH → Prop) (t2 : Value) (t3 : Value) (t6 : Value) (t7 : Value) (t8 : Value) (h0 : PH) : Prop :=
 model_Count_k28 R n6 t2 t3 t6 t7 t8 h0
def model_Count_b7 (R : Value → PH → Prop) (n6 : List Value → PH → Prop) (t2 : Value) (t3 : Value) (t6 : Value) (t7 : Value) (t8 : Value) (h0 : PH) : Prop :=
 popO (SemP PG (binOp BinOp.lss T_int t8 t7)) fun v8 =>
 condV v8
 (popO (SemP PG (Instr.indexAt T_sl_model_Entry t6 t8)) fun v9 =>
 popO (SemE PG h0 (Instr.loadAt T_model_Entry v9)) fun v10 =>
 ∀ r11, h0 r11 = none → bindH (PH.set h0 r11 (.cells (zcells PG T_model_Entry) T_model_Entry)) fun h12 =>
 SemH PG (storeS T_model_Entry (Value.pointer (some ⟨r11, 0, none⟩)) v10) h12 fun v13 h14 =>
 popO (SemP PG (Instr.fieldAt T_model_Entry (Value.pointer (some ⟨r11, 0, none⟩)) 1)) fun v15 =>
 popO (SemE PG h14 (Instr.loadAt T_int v15)) fun v16 =>
 CallsH PG id_model_state #[v16] h14 fun v17 h18 =>
 condV v17
 (popO (SemP PG (Instr.fieldAt T_model_Entry (Value.pointer (some ⟨r11, 0, none⟩)) 1)) fun v19 =>
 popO (SemE PG h18 (Instr.loadAt T_int v19)) fun v20 =>
 popO (SemP PG (Instr.indexAt T_5_int t3 v20)) fun v21 =>
 popO (SemE PG h18 (Instr.loadAt T_int v21)) fun v22 =>
 popO (SemP PG (binOp BinOp.add T_int v22 (Value.int IntKind.i64 1))) fun v23 =>
 popO (SemP PG (Instr.indexAt T_5_int t3 v20)) fun v24 =>
 SemH PG (storeS T_int v24 v23) h18 fun v25 h26 =>
 model_Count_k27 R n6 t2 t3 t6 t7 t8 h26)
 (model_Count_k27 R n6 t2 t3 t6 t7 t8 h18))
 (popO (SemE PG h0 (Instr.loadAt T_5_int t3)) fun v30 =>
 SemH PG (storeS T_5_int t2 v30) h0 fun v31 h32 =>
 popO (SemE PG h32 (Instr.loadAt T_5_int t2)) fun v33 =>
 R v33 h32)
def model_Count (t0 : Value) (h0 : PH) (R : Value → PH → Prop) : Prop :=
 ∀ r1, h0 r1 = none → bindH (PH.set h0 r1 (.cells (zcells PG T_5_int) T_5_int)) fun h2 =>
 ∀ r3, h2 r3 = none → bindH (PH.set h2 r3 (.cells (zcells PG T_5_int) T_5_int)) fun h4 =>
 popO (SemP PG (Builtin.len_ #[T_sl_model_Entry] T_int #[t0])) fun v5 =>
 LoopL [2, 3, 6, 7, 8] (fun n6 ρ h => model_Count_b7 R n6 (ρ 2) (ρ 3) (ρ 6) (ρ 7) (ρ 8) h) [(Value.pointer (some ⟨r1, 0, none⟩)), (Value.pointer (some ⟨r3, 0, none⟩)), t0, v5, (Value.int IntKind.i64 0)] h4
def model_Count.ann : Ann := { b := fun i => match i with  | _ => #[], ord := fun i => match i with  | _ => [], keep := fun i => match i with | 3 => [2, 3, 6, 7, 8] | _ => [] }
theorem model_Count.eq (t0 : Value) (h0 : PH) (R : Value → PH → Prop) : codeH PG model_Count.ann (bodyOf Tryd.f18) (endH PG Tryd.f18 R) (fun t => (#[t0] : Array Value).getD t undef) h0 = model_Count t0 h0 R := by kernel_rfl
theorem model_Count.call {t0 : Value} {h0 : PH} {R : Value → PH → Prop} (H : model_Count t0 h0 R) : CallsH PG id_model_Count #[t0] h0 R :=
  callsH_by model_Count.ann mix Tryd.func18 (by kernel_rfl) (by kernel_rfl) (by kernel_rfl) (by simp [Tryd.ntmps18]) (model_Count.eq t0 h0 R) H

def carracklaw22_ModelCounts_k61 (R : Value → PH → Prop) (n28 : List Value → PH → Prop) (t0 : Value) (t5 : Value) (t6 : Value) (t7 : Value) (t8 : Value) (t9 : Value) (h0 : PH) : Prop :=
 popO (SemP PG (binOp BinOp.add T_int t9 (Value.int IntKind.i64 1))) fun v62 =>
 n28 [t0, t5, t6, t7, t8, v62] h0
def carracklaw22_ModelCounts_k60 (R : Value → PH → Prop) (n28 : List Value → PH → Prop) (t0 : Value) (t5 : Value) (t6 : Value) (t7 : Value) (t8 : Value) (t9 : Value) (h0 : PH) : Prop :=
 carracklaw22_ModelCounts_k61 R n28 t0 t5 t6 t7 t8 t9 h0
def carracklaw22_ModelCounts_b122 (R : Value → PH → Prop) (n121 : List Value → PH → Prop) (t5 : Value) (t6 : Value) (t12 : Value) (t13 : Value) (h0 : PH) : Prop :=
 popO (SemP PG (Builtin.len_ #[T_sl_model_Entry] T_int #[t5])) fun v123 =>
 popO (SemP PG (binOp BinOp.lss T_int t13 v123)) fun v124 =>
 condV v124
 (gopV (yV t12) true (fun k127 => k127 t5 h0) h0 fun v125 h126 =>
 gopV (yV t12) true (fun k130 => k130 t13 h126) h126 fun v128 h129 =>
 gopV (yV t12) true (fun k133 => k133 t13 h129) h129 fun v131 h132 =>
 gopV (yV t12) true (fun k136 => popO (SemP PG (binOp BinOp.add T_int v131 (Value.int IntKind.i64 1))) fun v137 => k136 v137 h132) h132 fun v134 h135 =>
 gopV (yV t12) true (fun k140 => popO (SemP PG (Instr.sliceAt T_sl_model_Entry v125 (some v128) (some v134) none)) fun v141 => k140 v141 h135) h135 fun v138 h139 =>
 gopV (yV t12) true (fun k144 => k144 t6 h139) h139 fun v142 h143 =>
 gopV (yV t12) true (fun k147 => CallsH PG id_model_Step #[v138, v142] h143 fun v148 h149 => k147 v148 h149) h143 fun v145 h146 =>
 popO (pickV t12 v145 (Value.bool false)) fun v150 =>
 popO (SemP PG (binOp BinOp.add T_int t13 (Value.int IntKind.i64 1))) fun v151 =>
 n121 [t5, t6, v150, v151] h146)
 (CallsH PG id_model_Step #[t5, t6] h0 fun v152 h153 =>
 popO (SemE PG h153 (binS BinOp.eql T_bool (.tmp 98) (.tmp 99) v152 t12)) fun v154 =>
 R v154 h153)
def carracklaw22_ModelCounts_b64 (R : Value → PH → Prop) (n63 : List Value → PH → Prop) (t5 : Value) (t6 : Value) (t7 : Value) (t8 : Value) (t10 : Value) (t11 : Value) (h0 : PH) : Prop :=
 popO (SemP PG (binOp BinOp.lss T_int t11 (Value.int IntKind.i64 5))) fun v65 =>
 condV v65
 (popO (SemP PG (Instr.indexAt T_5_int t7 t11)) fun v66 =>
 popO (SemE PG h0 (Instr.loadAt T_int v66)) fun v67 =>
 popO (SemP PG (binOp BinOp.add T_int t10 v67)) fun v68 =>
 popO (SemP PG (binOp BinOp.add T_int t11 (Value.int IntKind.i64 1))) fun v69 =>
 n63 [t5, t6, t7, t8, v68, v69] h0)
 (popO (SemE PG h0 (binS BinOp.neq T_int (.tmp 61) (.tmp 62) t10 t8)) fun v70 =>
 gopV (yV v70) false (fun k73 => k73 t5 h0) h0 fun v71 h72 =>
 gopV (yV v70) false (fun k76 => popO (SemP PG (Instr.indexAt T_5_int t7 (Value.int IntKind.i64 1))) fun v77 => k76 v77 h72) h72 fun v74 h75 =>
 gopV (yV v70) false (fun k80 => popO (SemE PG h75 (Instr.loadAt T_int v74)) fun v81 => k80 v81 h75) h75 fun v78 h79 =>
 gopV (yV v70) false (fun k84 => popO (SemP PG (Instr.indexAt T_5_int t7 (Value.int IntKind.i64 2))) fun v85 => k84 v85 h79) h79 fun v82 h83 =>
 gopV (yV v70) false (fun k88 => popO (SemE PG h83 (Instr.loadAt T_int v82)) fun v89 => k88 v89 h83) h83 fun v86 h87 =>
 gopV (yV v70) false (fun k92 => popO (SemP PG (binOp BinOp.add T_int v78 v86)) fun v93 => k92 v93 h87) h87 fun v90 h91 =>
 gopV (yV v70) false (fun k96 => CallsH PG id_model_Open #[v71] h91 fun v97 h98 => k96 v97 h98) h91 fun v94 h95 =>
 ((yV v70 == some false) = true → SemE PG h95 (Instr.loadAt T_int v82) = some v86) ∧ ((yV v70 == some false) = true → SemE PG h95 (Instr.loadAt T_int v74) = some v78) ∧ (gopV (yV v70) false (fun k101 => popO (SemP PG (Builtin.len_ #[T_sl_api_Packet] T_int #[v94])) fun v102 => k101 v102 h95) h95 fun v99 h100 =>
 gopV (yV v70) false (fun k105 => popO (SemE PG h100 (binS BinOp.neq T_int (.tmp 67) (.tmp 72) v99 v90)) fun v106 => k105 v106 h100) h100 fun v103 h104 =>
 popO (pickV v70 (Value.bool true) v103) fun v107 =>
 gopV (yV v107) false (fun k110 => k110 t6 h104) h104 fun v108 h109 =>
 gopV (yV v107) false (fun k113 => CallsH PG id_model_Step #[(Value.slice none 0 0), v108] h109 fun v114 h115 => k113 v114 h115) h109 fun v111 h112 =>
 (gopV (yV v107) false (fun k118 => popO (SemP PG (Op.unary UnOp.not v111)) fun v119 => k118 v119 h112) h112 fun v116 h117 =>
 popO (pickV v107 (Value.bool true) v116) fun v120 =>
 condV v120
 (R (Value.bool false) h117)
 (LoopL [5, 6, 12, 13] (fun n121 ρ h => carracklaw22_ModelCounts_b122 R n121 (ρ 5) (ρ 6) (ρ 12) (ρ 13) h) [t5, t6, (Value.bool true), (Value.int IntKind.i64 0)] h117))))
def carracklaw22_ModelCounts_b29 (R : Value → PH → Prop) (n28 : List Value → PH → Prop) (t0 : Value) (t5 : Value) (t6 : Value) (t7 : Value) (t8 : Value) (t9 : Value) (h0 : PH) : Prop :=
 popO (SemP PG (Builtin.len_ #[T_sl_carrackref22_Entry] T_int #[t0])) fun v30 =>
 popO (SemP PG (binOp BinOp.lss T_int t9 v30)) fun v31 =>
 condV v31
 (popO (SemP PG (Instr.indexAt T_sl_carrackref22_Entry t0 t9)) fun v32 =>
 popO (SemP PG (Instr.fieldAt T_carrackref22_Entry v32 1)) fun v33 =>
 popO (SemE PG h0 (Instr.loadAt T_int v33)) fun v34 =>
 popO (SemP PG (binOp BinOp.geq T_int v34 (Value.int IntKind.i64 0))) fun v35 =>
 gopV (yV v35) true (fun k38 => k38 t0 h0) h0 fun v36 h37 =>
 gopV (yV v35) true (fun k41 => k41 t9 h37) h37 fun v39 h40 =>
 gopV (yV v35) true (fun k44 => popO (SemP PG (Instr.indexAt T_sl_carrackref22_Entry v36 v39)) fun v45 => k44 v45 h40) h40 fun v42 h43 =>
 gopV (yV v35) true (fun k48 => popO (SemP PG (Instr.fieldAt T_carrackref22_Entry v42 1)) fun v49 => k48 v49 h43) h43 fun v46 h47 =>
 gopV (yV v35) true (fun k52 => popO (SemE PG h47 (Instr.loadAt T_int v46)) fun v53 => k52 v53 h47) h47 fun v50 h51 =>
 gopV (yV v35) true (fun k56 => popO (SemP PG (binOp BinOp.leq T_int v50 (Value.int IntKind.i64 4))) fun v57 => k56 v57 h51) h51 fun v54 h55 =>
 popO (pickV v35 v54 (Value.bool false)) fun v58 =>
 condV v58
 (popO (SemP PG (binOp BinOp.add T_int t8 (Value.int IntKind.i64 1))) fun v59 =>
 carracklaw22_ModelCounts_k60 R n28 t0 t5 t6 t7 v59 t9 h55)
 (carracklaw22_ModelCounts_k60 R n28 t0 t5 t6 t7 t8 t9 h55))
 (LoopL [5, 6, 7, 8, 10, 11] (fun n63 ρ h => carracklaw22_ModelCounts_b64 R n63 (ρ 5) (ρ 6) (ρ 7) (ρ 8) (ρ 10) (ρ 11) h) [t5, t6, t7, t8, (Value.int IntKind.i64 0), (Value.int IntKind.i64 0)] h0)
def carracklaw22_ModelCounts (t0 : Value) (t1 : Value) (h0 : PH) (R : Value → PH → Prop) : Prop :=
 CallsH PG id_carracklaw22_awake #[] h0 fun v1 h2 =>
 popO (SemP PG (Op.unary UnOp.not v1)) fun v3 =>
 condV v3
 (R (Value.bool false) h2)
 (popO (SemP PG (Builtin.len_ #[T_sl_carrackref22_Entry] T_int #[t0])) fun v4 =>
 popO (SemP PG (binOp BinOp.gtr T_int v4 (Value.int IntKind.i64 60))) fun v5 =>
 gopV (yV v5) false (fun k8 => k8 t1 h2) h2 fun v6 h7 =>
 gopV (yV v5) false (fun k11 => popO (SemP PG (Builtin.len_ #[T_sl_carrackref22_Entry] T_int #[v6])) fun v12 => k11 v12 h7) h7 fun v9 h10 =>
 gopV (yV v5) false (fun k15 => popO (SemP PG (binOp BinOp.gtr T_int v9 (Value.int IntKind.i64 60))) fun v16 => k15 v16 h10) h10 fun v13 h14 =>
 popO (pickV v5 (Value.bool true) v13) fun v17 =>
 condV v17
 (R (Value.bool true) h14)
 (CallsH PG id_carracklaw22_turned #[t0] h14 fun v18 h19 =>
 CallsH PG id_carracklaw22_turned #[t1] h19 fun v20 h21 =>
 CallsH PG id_model_Count #[v18] h21 fun v22 h23 =>
 ∀ r24, h23 r24 = none → bindH (PH.set h23 r24 (.cells (zcells PG T_5_int) T_5_int)) fun h25 =>
 SemH PG (storeS T_5_int (Value.pointer (some ⟨r24, 0, none⟩)) v22) h25 fun v26 h27 =>
 LoopL [0, 5, 6, 7, 8, 9] (fun n28 ρ h => carracklaw22_ModelCounts_b29 R n28 (ρ 0) (ρ 5) (ρ 6) (ρ 7) (ρ 8) (ρ 9) h) [t0, v18, v20, (Value.pointer (some ⟨r24, 0, none⟩)), (Value.int IntKind.i64 0), (Value.int IntKind.i64 0)] h27))
def carracklaw22_ModelCounts.ann : Ann := { b := fun i => match i with | 18 => #[0, 0, 3, 7, 15, 31, 63, 15, 143, 15, 527, 1935, 4095, 8191, 16383, 32767, 65535, 131071, 262143] | _ => #[], ord := fun i => match i with | 18 => [0, 1, 2, 3, 4, 7, 8, 9, 10, 11, 5, 6, 12, 13, 14, 15, 16, 17, 18] | _ => [], keep := fun i => match i with | 9 => [0, 5, 6, 7, 8, 9] | 15 => [5, 6, 7, 8, 10, 11] | 22 => [5, 6, 12, 13] | _ => [] }
theorem carracklaw22_ModelCounts.eq (t0 : Value) (t1 : Value) (h0 : PH) (R : Value → PH → Prop) : codeH PG carracklaw22_ModelCounts.ann (bodyOf Tryd.f5) (endH PG Tryd.f5 R) (fun t => (#[t0, t1] : Array Value).getD t undef) h0 = carracklaw22_ModelCounts t0 t1 h0 R := by kernel_rfl
theorem carracklaw22_ModelCounts.call {t0 : Value} {t1 : Value} {h0 : PH} {R : Value → PH → Prop} (H : carracklaw22_ModelCounts t0 t1 h0 R) : CallsH PG id_carracklaw22_ModelCounts #[t0, t1] h0 R :=
  callsH_by carracklaw22_ModelCounts.ann mix Tryd.func5 (by kernel_rfl) (by kernel_rfl) (by kernel_rfl) (by simp [Tryd.ntmps5]) (carracklaw22_ModelCounts.eq t0 t1 h0 R) H

end Go.Proofs.YtbloalappckjhaaDoor
