/- What the functions of this program do on a part of memory, by program (prt.py) out of Lean's own print of them; for each the theorem that its code is that. -/
import Derived.Test.YtbloalappckjhaaTy
set_option maxRecDepth 100000
set_option linter.unusedVariables false
namespace Go.Proofs.Ytbloalappckjhaa
open Go
def carracklaw24_BoundTells (t0 : Value) (t1 : Value) (t2 : Value) (h0 : PH) (R : Value → PH → Prop) : Prop :=
 CallsH PG id_carracklaw24_awake #[] h0 fun v1 h2 =>
 popO (SemP PG (Op.unary UnOp.not v1)) fun v3 =>
 condV v3
 (R (Value.bool false) h2)
 (CallsH PG id_bound_Rounds #[t0, t1, t2] h2 fun v4 h5 =>
 popO (SemP PG (Instr.extract v4 0)) fun v6 =>
 popO (SemP PG (Instr.extract v4 1)) fun v7 =>
 CallsH PG id_carrackref24_Rounds #[t0, t1, t2] h5 fun v8 h9 =>
 popO (SemP PG (Instr.extract v8 0)) fun v10 =>
 popO (SemP PG (Instr.extract v8 1)) fun v11 =>
 popO (SemE PG h9 (binS BinOp.eql T_int (.tmp 27) (.tmp 28) v6 v10)) fun v12 =>
 gopV (yV v12) true (fun k15 => k15 v7 h9) h9 fun v13 h14 =>
 gopV (yV v12) true (fun k18 => k18 v11 h14) h14 fun v16 h17 =>
 gopV (yV v12) true (fun k21 => popO (SemE PG h17 (binS BinOp.eql T_int (.tmp 31) (.tmp 32) v13 v16)) fun v22 => k21 v22 h17) h17 fun v19 h20 =>
 popO (pickV v12 v19 (Value.bool false)) fun v23 =>
 R v23 h20)
def carracklaw24_BoundTells.ann : Ann := { b := fun i => match i with  | _ => #[], ord := fun i => match i with  | _ => [], keep := fun i => match i with  | _ => [] }
theorem carracklaw24_BoundTells.eq (t0 : Value) (t1 : Value) (t2 : Value) (h0 : PH) (R : Value → PH → Prop) : codeH PG carracklaw24_BoundTells.ann (bodyOf Try.f3) (endH PG Try.f3 R) (fun t => (#[t0, t1, t2] : Array Value).getD t undef) h0 = carracklaw24_BoundTells t0 t1 t2 h0 R := by kernel_rfl
theorem carracklaw24_BoundTells.call {t0 : Value} {t1 : Value} {t2 : Value} {h0 : PH} {R : Value → PH → Prop} (H : carracklaw24_BoundTells t0 t1 t2 h0 R) : CallsH PG id_carracklaw24_BoundTells #[t0, t1, t2] h0 R :=
  callsH_by carracklaw24_BoundTells.ann mix Try.func3 (by kernel_rfl) (by kernel_rfl) (by kernel_rfl) (by simp [Try.ntmps3]) (carracklaw24_BoundTells.eq t0 t1 t2 h0 R) H

def carracklaw24_awake (h0 : PH) (R : Value → PH → Prop) : Prop :=
 CallsH PG id_bound_Rounds #[(Value.int IntKind.i64 2), (Value.int IntKind.i64 0), (Value.int IntKind.i64 4)] h0 fun v1 h2 =>
 popO (SemP PG (Instr.extract v1 0)) fun v3 =>
 popO (SemP PG (Instr.extract v1 1)) fun v4 =>
 popO (SemE PG h2 (binS BinOp.eql T_int (.tmp 7) (.const (Value.int IntKind.i64 18)) v3 (Value.int IntKind.i64 18))) fun v5 =>
 gopV (yV v5) true (fun k8 => k8 v4 h2) h2 fun v6 h7 =>
 gopV (yV v5) true (fun k11 => popO (SemE PG h7 (binS BinOp.eql T_api_Errno (.tmp 10) (.const (Value.int IntKind.i64 0)) v6 (Value.int IntKind.i64 0))) fun v12 => k11 v12 h7) h7 fun v9 h10 =>
 popO (pickV v5 v9 (Value.bool false)) fun v13 =>
 R v13 h10
def carracklaw24_awake.ann : Ann := { b := fun i => match i with  | _ => #[], ord := fun i => match i with  | _ => [], keep := fun i => match i with  | _ => [] }
theorem carracklaw24_awake.eq (h0 : PH) (R : Value → PH → Prop) : codeH PG carracklaw24_awake.ann (bodyOf Try.f12) (endH PG Try.f12 R) (fun t => (#[] : Array Value).getD t undef) h0 = carracklaw24_awake  h0 R := by kernel_rfl
theorem carracklaw24_awake.call {h0 : PH} {R : Value → PH → Prop} (H : carracklaw24_awake  h0 R) : CallsH PG id_carracklaw24_awake #[] h0 R :=
  callsH_by carracklaw24_awake.ann mix Try.func12 (by kernel_rfl) (by kernel_rfl) (by kernel_rfl) (by simp [Try.ntmps12]) (carracklaw24_awake.eq  h0 R) H

def bound_Rounds (t0 : Value) (t1 : Value) (t2 : Value) (h0 : PH) (R : Value → PH → Prop) : Prop :=
 callC PG (Value.func (Fn.func id_bound_Rounds_1) #[] #[]) #[t0, (Value.int IntKind.i64 0), (Value.int IntKind.i64 1048576)] h0 fun v1 h2 =>
 popO (SemP PG (Op.unary UnOp.not v1)) fun v3 =>
 gopV (yV v3) false (fun k6 => k6 (Value.func (Fn.func id_bound_Rounds_1) #[] #[]) h2) h2 fun v4 h5 =>
 gopV (yV v3) false (fun k9 => k9 t1 h5) h5 fun v7 h8 =>
 gopV (yV v3) false (fun k12 => callC PG v4 #[v7, (Value.int IntKind.i64 0), (Value.int IntKind.i64 1048576)] h8 fun v13 h14 => k12 v13 h14) h8 fun v10 h11 =>
 gopV (yV v3) false (fun k17 => popO (SemP PG (Op.unary UnOp.not v10)) fun v18 => k17 v18 h11) h11 fun v15 h16 =>
 popO (pickV v3 (Value.bool true) v15) fun v19 =>
 gopV (yV v19) false (fun k22 => k22 (Value.func (Fn.func id_bound_Rounds_1) #[] #[]) h16) h16 fun v20 h21 =>
 gopV (yV v19) false (fun k25 => k25 t2 h21) h21 fun v23 h24 =>
 gopV (yV v19) false (fun k28 => callC PG v20 #[v23, (Value.int IntKind.i64 1), (Value.int IntKind.i64 40)] h24 fun v29 h30 => k28 v29 h30) h24 fun v26 h27 =>
 gopV (yV v19) false (fun k33 => popO (SemP PG (Op.unary UnOp.not v26)) fun v34 => k33 v34 h27) h27 fun v31 h32 =>
 popO (pickV v19 (Value.bool true) v31) fun v35 =>
 condV v35
 (R (Value.tuple #[(Value.int IntKind.i64 0), (Value.int IntKind.i64 1)]) h32)
 (popO (SemP PG (binOp BinOp.mul T_int (Value.int IntKind.i64 5) t0)) fun v36 =>
 popO (SemP PG (binOp BinOp.add T_int v36 t1)) fun v37 =>
 popO (SemP PG (binOp BinOp.add T_int v37 t2)) fun v38 =>
 popO (SemP PG (binOp BinOp.add T_int v38 (Value.int IntKind.i64 4))) fun v39 =>
 R (Value.tuple #[v39, (Value.int IntKind.i64 0)]) h32)
def bound_Rounds.ann : Ann := { b := fun i => match i with  | _ => #[], ord := fun i => match i with  | _ => [], keep := fun i => match i with  | _ => [] }
theorem bound_Rounds.eq (t0 : Value) (t1 : Value) (t2 : Value) (h0 : PH) (R : Value → PH → Prop) : codeH PG bound_Rounds.ann (bodyOf Try.f13) (endH PG Try.f13 R) (fun t => (#[t0, t1, t2] : Array Value).getD t undef) h0 = bound_Rounds t0 t1 t2 h0 R := by kernel_rfl
theorem bound_Rounds.call {t0 : Value} {t1 : Value} {t2 : Value} {h0 : PH} {R : Value → PH → Prop} (H : bound_Rounds t0 t1 t2 h0 R) : CallsH PG id_bound_Rounds #[t0, t1, t2] h0 R :=
  callsH_by bound_Rounds.ann mix Try.func13 (by kernel_rfl) (by kernel_rfl) (by kernel_rfl) (by simp [Try.ntmps13]) (bound_Rounds.eq t0 t1 t2 h0 R) H

def bound_Rounds_1 (t0 : Value) (t1 : Value) (t2 : Value) (h0 : PH) (R : Value → PH → Prop) : Prop :=
 popO (SemP PG (binOp BinOp.geq T_int t0 t1)) fun v1 =>
 gopV (yV v1) true (fun k4 => k4 t0 h0) h0 fun v2 h3 =>
 gopV (yV v1) true (fun k7 => k7 t2 h3) h3 fun v5 h6 =>
 gopV (yV v1) true (fun k10 => popO (SemP PG (binOp BinOp.leq T_int v2 v5)) fun v11 => k10 v11 h6) h6 fun v8 h9 =>
 popO (pickV v1 v8 (Value.bool false)) fun v12 =>
 R v12 h9
def bound_Rounds_1.ann : Ann := { b := fun i => match i with  | _ => #[], ord := fun i => match i with  | _ => [], keep := fun i => match i with  | _ => [] }
theorem bound_Rounds_1.eq (t0 : Value) (t1 : Value) (t2 : Value) (h0 : PH) (R : Value → PH → Prop) : codeH PG bound_Rounds_1.ann (bodyOf Try.f42) (endH PG Try.f42 R) (fun t => (#[t0, t1, t2] : Array Value).getD t undef) h0 = bound_Rounds_1 t0 t1 t2 h0 R := by kernel_rfl
theorem bound_Rounds_1.call {t0 : Value} {t1 : Value} {t2 : Value} {h0 : PH} {R : Value → PH → Prop} (H : bound_Rounds_1 t0 t1 t2 h0 R) : CallsH PG id_bound_Rounds_1 #[t0, t1, t2] h0 R :=
  callsH_by bound_Rounds_1.ann mix Try.func42 (by kernel_rfl) (by kernel_rfl) (by kernel_rfl) (by simp [Try.ntmps42]) (bound_Rounds_1.eq t0 t1 t2 h0 R) H

def carrackref24_Rounds (t0 : Value) (t1 : Value) (t2 : Value) (h0 : PH) (R : Value → PH → Prop) : Prop :=
 popO (SemP PG (binOp BinOp.lss T_int t0 (Value.int IntKind.i64 0))) fun v1 =>
 gopV (yV v1) false (fun k4 => k4 t0 h0) h0 fun v2 h3 =>
 gopV (yV v1) false (fun k7 => popO (SemP PG (binOp BinOp.gtr T_int v2 (Value.int IntKind.i64 1048576))) fun v8 => k7 v8 h3) h3 fun v5 h6 =>
 popO (pickV v1 (Value.bool true) v5) fun v9 =>
 gopV (yV v9) false (fun k12 => k12 t1 h6) h6 fun v10 h11 =>
 gopV (yV v9) false (fun k15 => popO (SemP PG (binOp BinOp.lss T_int v10 (Value.int IntKind.i64 0))) fun v16 => k15 v16 h11) h11 fun v13 h14 =>
 popO (pickV v9 (Value.bool true) v13) fun v17 =>
 gopV (yV v17) false (fun k20 => k20 t1 h14) h14 fun v18 h19 =>
 gopV (yV v17) false (fun k23 => popO (SemP PG (binOp BinOp.gtr T_int v18 (Value.int IntKind.i64 1048576))) fun v24 => k23 v24 h19) h19 fun v21 h22 =>
 popO (pickV v17 (Value.bool true) v21) fun v25 =>
 gopV (yV v25) false (fun k28 => k28 t2 h22) h22 fun v26 h27 =>
 gopV (yV v25) false (fun k31 => popO (SemP PG (binOp BinOp.lss T_int v26 (Value.int IntKind.i64 1))) fun v32 => k31 v32 h27) h27 fun v29 h30 =>
 popO (pickV v25 (Value.bool true) v29) fun v33 =>
 gopV (yV v33) false (fun k36 => k36 t2 h30) h30 fun v34 h35 =>
 gopV (yV v33) false (fun k39 => popO (SemP PG (binOp BinOp.gtr T_int v34 (Value.int IntKind.i64 40))) fun v40 => k39 v40 h35) h35 fun v37 h38 =>
 popO (pickV v33 (Value.bool true) v37) fun v41 =>
 condV v41
 (R (Value.tuple #[(Value.int IntKind.i64 0), (Value.int IntKind.i64 1)]) h38)
 (popO (SemP PG (binOp BinOp.mul T_int t0 (Value.int IntKind.i64 5))) fun v42 =>
 popO (SemP PG (binOp BinOp.add T_int v42 t1)) fun v43 =>
 popO (SemP PG (binOp BinOp.add T_int v43 t2)) fun v44 =>
 popO (SemP PG (binOp BinOp.add T_int v44 (Value.int IntKind.i64 4))) fun v45 =>
 R (Value.tuple #[v45, (Value.int IntKind.i64 0)]) h38)
def carrackref24_Rounds.ann : Ann := { b := fun i => match i with  | _ => #[], ord := fun i => match i with  | _ => [], keep := fun i => match i with  | _ => [] }
theorem carrackref24_Rounds.eq (t0 : Value) (t1 : Value) (t2 : Value) (h0 : PH) (R : Value → PH → Prop) : codeH PG carrackref24_Rounds.ann (bodyOf Try.f14) (endH PG Try.f14 R) (fun t => (#[t0, t1, t2] : Array Value).getD t undef) h0 = carrackref24_Rounds t0 t1 t2 h0 R := by kernel_rfl
theorem carrackref24_Rounds.call {t0 : Value} {t1 : Value} {t2 : Value} {h0 : PH} {R : Value → PH → Prop} (H : carrackref24_Rounds t0 t1 t2 h0 R) : CallsH PG id_carrackref24_Rounds #[t0, t1, t2] h0 R :=
  callsH_by carrackref24_Rounds.ann mix Try.func14 (by kernel_rfl) (by kernel_rfl) (by kernel_rfl) (by simp [Try.ntmps14]) (carrackref24_Rounds.eq t0 t1 t2 h0 R) H

def carracklaw20_NetMoves_k131 (R : Value → PH → Prop) (t1 : Value) (t7 : Value) (h0 : PH) : Prop :=
 CallsH PG id_net_Net_List #[t7] h0 fun v132 h133 =>
 CallsH PG id_net_Net_Twice #[t7, t1] h133 fun v134 h135 =>
 CallsH PG id_net_Net_List #[t7] h135 fun v136 h137 =>
 popO (SemE PG h137 (binS BinOp.neq T_api_Errno (.tmp 98) (.const (Value.int IntKind.i64 0)) v134 (Value.int IntKind.i64 0))) fun v138 =>
 condV v138
 (CallsH PG id_carrackref19_Same #[v136, v132] h137 fun v139 h140 =>
 R v139 h140)
 (popO (SemP PG (binOp BinOp.geq T_int t1 (Value.int IntKind.i64 0))) fun v141 =>
 gopV (yV v141) true (fun k144 => k144 t1 h137) h137 fun v142 h143 =>
 gopV (yV v141) true (fun k147 => k147 v132 h143) h143 fun v145 h146 =>
 gopV (yV v141) true (fun k150 => popO (SemP PG (Builtin.len_ #[T_sl_api_Message] T_int #[v145])) fun v151 => k150 v151 h146) h146 fun v148 h149 =>
 gopV (yV v141) true (fun k154 => popO (SemP PG (binOp BinOp.lss T_int v142 v148)) fun v155 => k154 v155 h149) h149 fun v152 h153 =>
 popO (pickV v141 v152 (Value.bool false)) fun v156 =>
 gopV (yV v156) true (fun k159 => k159 v136 h153) h153 fun v157 h158 =>
 gopV (yV v156) true (fun k162 => popO (SemP PG (Builtin.len_ #[T_sl_api_Message] T_int #[v157])) fun v163 => k162 v163 h158) h158 fun v160 h161 =>
 gopV (yV v156) true (fun k166 => k166 v132 h161) h161 fun v164 h165 =>
 gopV (yV v156) true (fun k169 => popO (SemP PG (Builtin.len_ #[T_sl_api_Message] T_int #[v164])) fun v170 => k169 v170 h165) h165 fun v167 h168 =>
 gopV (yV v156) true (fun k173 => popO (SemP PG (binOp BinOp.add T_int v167 (Value.int IntKind.i64 1))) fun v174 => k173 v174 h168) h168 fun v171 h172 =>
 gopV (yV v156) true (fun k177 => popO (SemE PG h172 (binS BinOp.eql T_int (.tmp 113) (.tmp 116) v160 v171)) fun v178 => k177 v178 h172) h172 fun v175 h176 =>
 popO (pickV v156 v175 (Value.bool false)) fun v179 =>
 gopV (yV v179) true (fun k182 => k182 v136 h176) h176 fun v180 h181 =>
 gopV (yV v179) true (fun k185 => k185 v132 h181) h181 fun v183 h184 =>
 gopV (yV v179) true (fun k188 => popO (SemP PG (Builtin.len_ #[T_sl_api_Message] T_int #[v183])) fun v189 => k188 v189 h184) h184 fun v186 h187 =>
 gopV (yV v179) true (fun k192 => popO (SemP PG (Instr.sliceAt T_sl_api_Message v180 none (some v186) none)) fun v193 => k192 v193 h187) h187 fun v190 h191 =>
 gopV (yV v179) true (fun k196 => k196 v132 h191) h191 fun v194 h195 =>
 gopV (yV v179) true (fun k199 => CallsH PG id_carrackref19_Same #[v190, v194] h195 fun v200 h201 => k199 v200 h201) h195 fun v197 h198 =>
 (popO (pickV v179 v197 (Value.bool false)) fun v202 =>
 gopV (yV v202) true (fun k205 => k205 v136 h198) h198 fun v203 h204 =>
 gopV (yV v202) true (fun k208 => k208 v132 h204) h204 fun v206 h207 =>
 gopV (yV v202) true (fun k211 => popO (SemP PG (Builtin.len_ #[T_sl_api_Message] T_int #[v206])) fun v212 => k211 v212 h207) h207 fun v209 h210 =>
 gopV (yV v202) true (fun k215 => popO (SemP PG (Instr.indexAt T_sl_api_Message v203 v209)) fun v216 => k215 v216 h210) h210 fun v213 h214 =>
 gopV (yV v202) true (fun k219 => popO (SemE PG h214 (Instr.loadAt T_api_Message v213)) fun v220 => k219 v220 h214) h214 fun v217 h218 =>
 gopV (yV v202) true (fun k223 => k223 v132 h218) h218 fun v221 h222 =>
 gopV (yV v202) true (fun k226 => k226 t1 h222) h222 fun v224 h225 =>
 gopV (yV v202) true (fun k229 => popO (SemP PG (Instr.indexAt T_sl_api_Message v221 v224)) fun v230 => k229 v230 h225) h225 fun v227 h228 =>
 gopV (yV v202) true (fun k233 => popO (SemE PG h228 (Instr.loadAt T_api_Message v227)) fun v234 => k233 v234 h228) h228 fun v231 h232 =>
 gopV (yV v202) true (fun k237 => popO (SemE PG h232 (binS BinOp.eql T_api_Message (.tmp 132) (.tmp 136) v217 v231)) fun v238 => k237 v238 h232) h232 fun v235 h236 =>
 popO (pickV v202 v235 (Value.bool false)) fun v239 =>
 R v239 h236))
def carracklaw20_NetMoves (t0 : Value) (t1 : Value) (t2 : Value) (h0 : PH) (R : Value → PH → Prop) : Prop :=
 CallsH PG id_carracklaw20_awake #[] h0 fun v1 h2 =>
 popO (SemP PG (Op.unary UnOp.not v1)) fun v3 =>
 condV v3
 (R (Value.bool false) h2)
 (popO (SemP PG (Builtin.len_ #[T_sl_api_Message] T_int #[t0])) fun v4 =>
 popO (SemP PG (binOp BinOp.gtr T_int v4 (Value.int IntKind.i64 300))) fun v5 =>
 condV v5
 (R (Value.bool true) h2)
 (CallsH PG id_net_New #[] h2 fun v6 h7 =>
 popO (SemE PG h7 (binS BinOp.eql T_p_net_Net (.tmp 20) (.const (Value.pointer none)) v6 (Value.pointer none))) fun v8 =>
 condV v8
 (R (Value.bool false) h7)
 (CallsH PG id_net_Net_Send #[v6, t0] h7 fun v9 h10 =>
 CallsH PG id_net_Net_List #[v6] h10 fun v11 h12 =>
 CallsH PG id_net_Net_Move #[v6, t1, t2] h12 fun v13 h14 =>
 popO (SemE PG h14 (binS BinOp.eql T_api_Errno (.tmp 30) (.const (Value.int IntKind.i64 0)) v13 (Value.int IntKind.i64 0))) fun v15 =>
 condV v15
 (CallsH PG id_net_Net_List #[v6] h14 fun v16 h17 =>
 popO (SemP PG (Builtin.min_ #[T_int, T_int] T_int #[t1, t2])) fun v18 =>
 popO (SemP PG (Builtin.max_ #[T_int, T_int] T_int #[t1, t2])) fun v19 =>
 popO (SemP PG (binOp BinOp.lss T_int v18 (Value.int IntKind.i64 0))) fun v20 =>
 gopV (yV v20) false (fun k23 => k23 v19 h17) h17 fun v21 h22 =>
 gopV (yV v20) false (fun k26 => k26 v11 h22) h22 fun v24 h25 =>
 gopV (yV v20) false (fun k29 => popO (SemP PG (Builtin.len_ #[T_sl_api_Message] T_int #[v24])) fun v30 => k29 v30 h25) h25 fun v27 h28 =>
 gopV (yV v20) false (fun k33 => popO (SemP PG (binOp BinOp.geq T_int v21 v27)) fun v34 => k33 v34 h28) h28 fun v31 h32 =>
 popO (pickV v20 (Value.bool true) v31) fun v35 =>
 gopV (yV v35) false (fun k38 => k38 v16 h32) h32 fun v36 h37 =>
 gopV (yV v35) false (fun k41 => popO (SemP PG (Builtin.len_ #[T_sl_api_Message] T_int #[v36])) fun v42 => k41 v42 h37) h37 fun v39 h40 =>
 gopV (yV v35) false (fun k45 => k45 v11 h40) h40 fun v43 h44 =>
 gopV (yV v35) false (fun k48 => popO (SemP PG (Builtin.len_ #[T_sl_api_Message] T_int #[v43])) fun v49 => k48 v49 h44) h44 fun v46 h47 =>
 gopV (yV v35) false (fun k52 => popO (SemE PG h47 (binS BinOp.neq T_int (.tmp 50) (.tmp 52) v39 v46)) fun v53 => k52 v53 h47) h47 fun v50 h51 =>
 popO (pickV v35 (Value.bool true) v50) fun v54 =>
 condV v54
 (R (Value.bool false) h51)
 (popO (SemP PG (Instr.sliceAt T_sl_api_Message v16 none (some v18) none)) fun v55 =>
 popO (SemP PG (Instr.sliceAt T_sl_api_Message v11 none (some v18) none)) fun v56 =>
 CallsH PG id_carrackref19_Same #[v55, v56] h51 fun v57 h58 =>
 (popO (SemP PG (Op.unary UnOp.not v57)) fun v59 =>
 gopV (yV v59) false (fun k62 => k62 v16 h58) h58 fun v60 h61 =>
 gopV (yV v59) false (fun k65 => k65 v19 h61) h61 fun v63 h64 =>
 gopV (yV v59) false (fun k68 => popO (SemP PG (binOp BinOp.add T_int v63 (Value.int IntKind.i64 1))) fun v69 => k68 v69 h64) h64 fun v66 h67 =>
 gopV (yV v59) false (fun k72 => popO (SemP PG (Instr.sliceAt T_sl_api_Message v60 (some v66) none none)) fun v73 => k72 v73 h67) h67 fun v70 h71 =>
 gopV (yV v59) false (fun k76 => k76 v11 h71) h71 fun v74 h75 =>
 gopV (yV v59) false (fun k79 => k79 v19 h75) h75 fun v77 h78 =>
 gopV (yV v59) false (fun k82 => popO (SemP PG (binOp BinOp.add T_int v77 (Value.int IntKind.i64 1))) fun v83 => k82 v83 h78) h78 fun v80 h81 =>
 gopV (yV v59) false (fun k86 => popO (SemP PG (Instr.sliceAt T_sl_api_Message v74 (some v80) none none)) fun v87 => k86 v87 h81) h81 fun v84 h85 =>
 gopV (yV v59) false (fun k90 => CallsH PG id_carrackref19_Same #[v70, v84] h85 fun v91 h92 => k90 v91 h92) h85 fun v88 h89 =>
 (gopV (yV v59) false (fun k95 => popO (SemP PG (Op.unary UnOp.not v88)) fun v96 => k95 v96 h89) h89 fun v93 h94 =>
 popO (pickV v59 (Value.bool true) v93) fun v97 =>
 gopV (yV v97) false (fun k100 => k100 v16 h94) h94 fun v98 h99 =>
 gopV (yV v97) false (fun k103 => k103 t2 h99) h99 fun v101 h102 =>
 gopV (yV v97) false (fun k106 => popO (SemP PG (Instr.indexAt T_sl_api_Message v98 v101)) fun v107 => k106 v107 h102) h102 fun v104 h105 =>
 gopV (yV v97) false (fun k110 => popO (SemE PG h105 (Instr.loadAt T_api_Message v104)) fun v111 => k110 v111 h105) h105 fun v108 h109 =>
 gopV (yV v97) false (fun k114 => k114 v11 h109) h109 fun v112 h113 =>
 gopV (yV v97) false (fun k117 => k117 t1 h113) h113 fun v115 h116 =>
 gopV (yV v97) false (fun k120 => popO (SemP PG (Instr.indexAt T_sl_api_Message v112 v115)) fun v121 => k120 v121 h116) h116 fun v118 h119 =>
 gopV (yV v97) false (fun k124 => popO (SemE PG h119 (Instr.loadAt T_api_Message v118)) fun v125 => k124 v125 h119) h119 fun v122 h123 =>
 gopV (yV v97) false (fun k128 => popO (SemE PG h123 (binS BinOp.neq T_api_Message (.tmp 79) (.tmp 83) v108 v122)) fun v129 => k128 v129 h123) h123 fun v126 h127 =>
 popO (pickV v97 (Value.bool true) v126) fun v130 =>
 condV v130
 (R (Value.bool false) h127)
 (carracklaw20_NetMoves_k131 R t1 v6 h127)))))
 (CallsH PG id_net_Net_List #[v6] h14 fun v240 h241 =>
 CallsH PG id_carrackref19_Same #[v240, v11] h241 fun v242 h243 =>
 popO (SemP PG (Op.unary UnOp.not v242)) fun v244 =>
 condV v244
 (R (Value.bool false) h243)
 (carracklaw20_NetMoves_k131 R t1 v6 h243)))))
def carracklaw20_NetMoves.ann : Ann := { b := fun i => match i with | 15 => #[0, 0, 3, 0, 0, 24, 63, 127, 255, 511, 511, 1535, 4095, 511, 511, 16895, 57855, 131071, 262143, 524287, 1048575, 2097151, 2097151, 8388607, 16777215, 2097151, 2097151, 102760447, 236978175, 536870911, 1073741823] | 24 => #[0, 1, 3, 7, 7, 23, 63, 127, 255, 511, 1023, 511, 2559, 6655, 16383, 32767, 65535, 131071, 131071, 393215, 1048575, 131071, 4194303, 8388607, 16777215, 33554431, 33554431, 100663295, 268435455, 536870911, 33554431, 33554431, 3254779903, 7549747199, 17179869183, 34359738367, 68719476735] | _ => #[], ord := fun i => match i with | 15 => [0, 1, 2, 3, 4, 5, 6, 7, 8, 9, 10, 11, 12, 13, 14, 15, 16, 17, 18, 19, 20, 21, 22, 23, 24, 25, 26, 27, 28, 29, 30] | 24 => [0, 1, 2, 3, 4, 5, 6, 7, 8, 9, 10, 11, 12, 13, 14, 15, 16, 17, 18, 19, 20, 21, 22, 23, 24, 25, 26, 27, 28, 29, 30, 31, 32, 33, 34, 35, 36] | _ => [], keep := fun i => match i with  | _ => [] }
theorem carracklaw20_NetMoves.eq (t0 : Value) (t1 : Value) (t2 : Value) (h0 : PH) (R : Value → PH → Prop) : codeH PG carracklaw20_NetMoves.ann (bodyOf Try.f4) (endH PG Try.f4 R) (fun t => (#[t0, t1, t2] : Array Value).getD t undef) h0 = carracklaw20_NetMoves t0 t1 t2 h0 R := by kernel_rfl
theorem carracklaw20_NetMoves.call {t0 : Value} {t1 : Value} {t2 : Value} {h0 : PH} {R : Value → PH → Prop} (H : carracklaw20_NetMoves t0 t1 t2 h0 R) : CallsH PG id_carracklaw20_NetMoves #[t0, t1, t2] h0 R :=
  callsH_by carracklaw20_NetMoves.ann mix Try.func4 (by kernel_rfl) (by kernel_rfl) (by kernel_rfl) (by simp [Try.ntmps4]) (carracklaw20_NetMoves.eq t0 t1 t2 h0 R) H

def carracklaw20_awake (h0 : PH) (R : Value → PH → Prop) : Prop :=
 CallsH PG id_net_New #[] h0 fun v1 h2 =>
 popO (SemE PG h2 (binS BinOp.eql T_p_net_Net (.tmp 6) (.const (Value.pointer none)) v1 (Value.pointer none))) fun v3 =>
 condV v3
 (R (Value.bool false) h2)
 (CallsH PG id_carracklaw20_one #[(Value.int IntKind.u64 1)] h2 fun v4 h5 =>
 CallsH PG id_carracklaw20_one #[(Value.int IntKind.u64 2)] h5 fun v6 h7 =>
 popO (SemA PG (Instr.buildSlice T_sl_api_Message 2 #[(0, v4), (1, v6)])) fun x9 => ∀ r8, h7 r8 = none → popO (SemP PG (x9.2 r8)) fun v10 => bindH (PH.set h7 r8 x9.1) fun h11 =>
 CallsH PG id_net_Net_Send #[v1, v10] h11 fun v12 h13 =>
 CallsH PG id_net_Net_Twice #[v1, (Value.int IntKind.i64 0)] h13 fun v14 h15 =>
 CallsH PG id_net_Net_Move #[v1, (Value.int IntKind.i64 2), (Value.int IntKind.i64 0)] h15 fun v16 h17 =>
 popO (SemE PG h17 (binS BinOp.eql T_int (.tmp 17) (.const (Value.int IntKind.i64 2)) v12 (Value.int IntKind.i64 2))) fun v18 =>
 gopV (yV v18) true (fun k21 => k21 v14 h17) h17 fun v19 h20 =>
 gopV (yV v18) true (fun k24 => popO (SemE PG h20 (binS BinOp.eql T_api_Errno (.tmp 20) (.const (Value.int IntKind.i64 0)) v19 (Value.int IntKind.i64 0))) fun v25 => k24 v25 h20) h20 fun v22 h23 =>
 popO (pickV v18 v22 (Value.bool false)) fun v26 =>
 gopV (yV v26) true (fun k29 => k29 v16 h23) h23 fun v27 h28 =>
 gopV (yV v26) true (fun k32 => popO (SemE PG h28 (binS BinOp.eql T_api_Errno (.tmp 24) (.const (Value.int IntKind.i64 0)) v27 (Value.int IntKind.i64 0))) fun v33 => k32 v33 h28) h28 fun v30 h31 =>
 popO (pickV v26 v30 (Value.bool false)) fun v34 =>
 gopV (yV v34) true (fun k37 => k37 v1 h31) h31 fun v35 h36 =>
 gopV (yV v34) true (fun k40 => CallsH PG id_net_Net_List #[v35] h36 fun v41 h42 => k40 v41 h42) h36 fun v38 h39 =>
 gopV (yV v34) true (fun k45 => CallsH PG id_carracklaw20_one #[(Value.int IntKind.u64 1)] h39 fun v46 h47 => k45 v46 h47) h39 fun v43 h44 =>
 gopV (yV v34) true (fun k50 => CallsH PG id_carracklaw20_one #[(Value.int IntKind.u64 1)] h44 fun v51 h52 => k50 v51 h52) h44 fun v48 h49 =>
 gopV (yV v34) true (fun k55 => CallsH PG id_carracklaw20_one #[(Value.int IntKind.u64 2)] h49 fun v56 h57 => k55 v56 h57) h49 fun v53 h54 =>
 gopV (yV v34) true (fun k60 => popO (SemA PG (Instr.buildSlice T_sl_api_Message 3 #[(0, v43), (1, v48), (2, v53)])) fun x62 => ∀ r61, h54 r61 = none → popO (SemP PG (x62.2 r61)) fun v63 => bindH (PH.set h54 r61 x62.1) fun h64 => k60 v63 h64) h54 fun v58 h59 =>
 gopV (yV v34) true (fun k67 => CallsH PG id_carrackref19_Same #[v38, v58] h59 fun v68 h69 => k67 v68 h69) h59 fun v65 h66 =>
 popO (pickV v34 v65 (Value.bool false)) fun v70 =>
 R v70 h66)
def carracklaw20_awake.ann : Ann := { b := fun i => match i with  | _ => #[], ord := fun i => match i with  | _ => [], keep := fun i => match i with  | _ => [] }
theorem carracklaw20_awake.eq (h0 : PH) (R : Value → PH → Prop) : codeH PG carracklaw20_awake.ann (bodyOf Try.f15) (endH PG Try.f15 R) (fun t => (#[] : Array Value).getD t undef) h0 = carracklaw20_awake  h0 R := by kernel_rfl
theorem carracklaw20_awake.call {h0 : PH} {R : Value → PH → Prop} (H : carracklaw20_awake  h0 R) : CallsH PG id_carracklaw20_awake #[] h0 R :=
  callsH_by carracklaw20_awake.ann mix Try.func15 (by kernel_rfl) (by kernel_rfl) (by kernel_rfl) (by simp [Try.ntmps15]) (carracklaw20_awake.eq  h0 R) H

def net_New (h0 : PH) (R : Value → PH → Prop) : Prop :=
 popO (SemP PG (Instr.build T_net_Net #[])) fun v1 =>
 ∀ r2, h0 r2 = none → bindH (PH.set h0 r2 (.cells (Value.cells v1) T_net_Net)) fun h3 =>
 R (Value.pointer (some ⟨r2, 0, none⟩)) h3
def net_New.ann : Ann := { b := fun i => match i with  | _ => #[], ord := fun i => match i with  | _ => [], keep := fun i => match i with  | _ => [] }
theorem net_New.eq (h0 : PH) (R : Value → PH → Prop) : codeH PG net_New.ann (bodyOf Try.f16) (endH PG Try.f16 R) (fun t => (#[] : Array Value).getD t undef) h0 = net_New  h0 R := by kernel_rfl
theorem net_New.call {h0 : PH} {R : Value → PH → Prop} (H : net_New  h0 R) : CallsH PG id_net_New #[] h0 R :=
  callsH_by net_New.ann mix Try.func16 (by kernel_rfl) (by kernel_rfl) (by kernel_rfl) (by simp [Try.ntmps16]) (net_New.eq  h0 R) H

def net_Net_Send (t0 : Value) (t1 : Value) (h0 : PH) (R : Value → PH → Prop) : Prop :=
 popO (SemP PG (Builtin.len_ #[T_sl_api_Message] T_int #[t1])) fun v1 =>
 popO (SemP PG (nilS t0)) fun v2 =>
 popO (SemP PG (Instr.fieldAt T_net_Net v2 0)) fun v3 =>
 popO (SemE PG h0 (Instr.loadAt T_sl_api_Message v3)) fun v4 =>
 popO (SemP PG (Builtin.len_ #[T_sl_api_Message] T_int #[v4])) fun v5 =>
 popO (SemP PG (binOp BinOp.sub T_int (Value.int IntKind.i64 256) v5)) fun v6 =>
 popO (SemP PG (Builtin.min_ #[T_int, T_int] T_int #[v1, v6])) fun v7 =>
 popO (SemP PG (nilS t0)) fun v8 =>
 popO (SemP PG (Instr.fieldAt T_net_Net v8 0)) fun v9 =>
 popO (SemE PG h0 (Instr.loadAt T_sl_api_Message v9)) fun v10 =>
 popO (SemP PG (Instr.sliceAt T_sl_api_Message t1 none (some v7) none)) fun v11 =>
 SemH PG (Builtin.append_ #[T_sl_api_Message, T_sl_api_Message] T_sl_api_Message #[v10, v11]) h0 fun v12 h13 =>
 (popO (SemP PG (nilS t0)) fun v14 =>
 popO (SemP PG (Instr.fieldAt T_net_Net v14 0)) fun v15 =>
 SemH PG (storeS T_sl_api_Message v15 v12) h13 fun v16 h17 =>
 (R v7 h17))
def net_Net_Send.ann : Ann := { b := fun i => match i with | 2 => #[0, 0, 2, 6, 14, 0, 0, 96, 254, 511, 1023, 2047] | _ => #[], ord := fun i => match i with | 2 => [0, 1, 2, 3, 4, 5, 6, 7, 8, 9, 10, 11] | _ => [], keep := fun i => match i with  | _ => [] }
theorem net_Net_Send.eq (t0 : Value) (t1 : Value) (h0 : PH) (R : Value → PH → Prop) : codeH PG net_Net_Send.ann (bodyOf Try.f17) (endH PG Try.f17 R) (fun t => (#[t0, t1] : Array Value).getD t undef) h0 = net_Net_Send t0 t1 h0 R := by kernel_rfl
theorem net_Net_Send.call {t0 : Value} {t1 : Value} {h0 : PH} {R : Value → PH → Prop} (H : net_Net_Send t0 t1 h0 R) : CallsH PG id_net_Net_Send #[t0, t1] h0 R :=
  callsH_by net_Net_Send.ann mix Try.func17 (by kernel_rfl) (by kernel_rfl) (by kernel_rfl) (by simp [Try.ntmps17]) (net_Net_Send.eq t0 t1 h0 R) H

def net_Net_List (t0 : Value) (h0 : PH) (R : Value → PH → Prop) : Prop :=
 popO (SemP PG (nilS t0)) fun v1 =>
 popO (SemP PG (Instr.fieldAt T_net_Net v1 0)) fun v2 =>
 popO (SemE PG h0 (Instr.loadAt T_sl_api_Message v2)) fun v3 =>
 CallsH PG id_slices_Clone_sl_api_Message_api_Message #[v3] h0 fun v4 h5 =>
 R v4 h5
def net_Net_List.ann : Ann := { b := fun i => match i with  | _ => #[], ord := fun i => match i with  | _ => [], keep := fun i => match i with  | _ => [] }
theorem net_Net_List.eq (t0 : Value) (h0 : PH) (R : Value → PH → Prop) : codeH PG net_Net_List.ann (bodyOf Try.f18) (endH PG Try.f18 R) (fun t => (#[t0] : Array Value).getD t undef) h0 = net_Net_List t0 h0 R := by kernel_rfl
theorem net_Net_List.call {t0 : Value} {h0 : PH} {R : Value → PH → Prop} (H : net_Net_List t0 h0 R) : CallsH PG id_net_Net_List #[t0] h0 R :=
  callsH_by net_Net_List.ann mix Try.func18 (by kernel_rfl) (by kernel_rfl) (by kernel_rfl) (by simp [Try.ntmps18]) (net_Net_List.eq t0 h0 R) H

def slices_Clone_sl_api_Message_api_Message (t0 : Value) (h0 : PH) (R : Value → PH → Prop) : Prop :=
 popO (SemE PG h0 (binS BinOp.eql T_sl_api_Message (.tmp 3) (.const (Value.slice none 0 0)) t0 (Value.slice none 0 0))) fun v1 =>
 condV v1
 (R (Value.slice none 0 0) h0)
 (popO (SemA PG (Instr.buildSlice T_sl_api_Message 0 #[])) fun x3 => ∀ r2, h0 r2 = none → popO (SemP PG (x3.2 r2)) fun v4 => bindH (PH.set h0 r2 x3.1) fun h5 =>
 SemH PG (Builtin.append_ #[T_sl_api_Message, T_sl_api_Message] T_sl_api_Message #[v4, t0]) h5 fun v6 h7 =>
 R v6 h7)
def slices_Clone_sl_api_Message_api_Message.ann : Ann := { b := fun i => match i with  | _ => #[], ord := fun i => match i with  | _ => [], keep := fun i => match i with  | _ => [] }
theorem slices_Clone_sl_api_Message_api_Message.eq (t0 : Value) (h0 : PH) (R : Value → PH → Prop) : codeH PG slices_Clone_sl_api_Message_api_Message.ann (bodyOf Try.f44) (endH PG Try.f44 R) (fun t => (#[t0] : Array Value).getD t undef) h0 = slices_Clone_sl_api_Message_api_Message t0 h0 R := by kernel_rfl
theorem slices_Clone_sl_api_Message_api_Message.call {t0 : Value} {h0 : PH} {R : Value → PH → Prop} (H : slices_Clone_sl_api_Message_api_Message t0 h0 R) : CallsH PG id_slices_Clone_sl_api_Message_api_Message #[t0] h0 R :=
  callsH_by slices_Clone_sl_api_Message_api_Message.ann mix Try.func44 (by kernel_rfl) (by kernel_rfl) (by kernel_rfl) (by simp [Try.ntmps44]) (slices_Clone_sl_api_Message_api_Message.eq t0 h0 R) H

def net_Net_Move_k42 (R : Value → PH → Prop) (t0 : Value) (t2 : Value) (t7 : Value) (h0 : PH) : Prop :=
 popO (SemP PG (nilS t0)) fun v43 =>
 popO (SemP PG (Instr.fieldAt T_net_Net v43 0)) fun v44 =>
 popO (SemE PG h0 (Instr.loadAt T_sl_api_Message v44)) fun v45 =>
 popO (SemE PG h0 (Instr.loadAt T_api_Message t7)) fun v46 =>
 popO (SemP PG (Instr.indexAt T_sl_api_Message v45 t2)) fun v47 =>
 SemH PG (storeS T_api_Message v47 v46) h0 fun v48 h49 =>
 (R (Value.int IntKind.i64 0) h49)
def net_Net_Move (t0 : Value) (t1 : Value) (t2 : Value) (h0 : PH) (R : Value → PH → Prop) : Prop :=
 CallsH PG id_net_Net_there #[t0, t1] h0 fun v1 h2 =>
 popO (SemP PG (Op.unary UnOp.not v1)) fun v3 =>
 gopV (yV v3) false (fun k6 => k6 t0 h2) h2 fun v4 h5 =>
 gopV (yV v3) false (fun k9 => k9 t2 h5) h5 fun v7 h8 =>
 gopV (yV v3) false (fun k12 => CallsH PG id_net_Net_there #[v4, v7] h8 fun v13 h14 => k12 v13 h14) h8 fun v10 h11 =>
 gopV (yV v3) false (fun k17 => popO (SemP PG (Op.unary UnOp.not v10)) fun v18 => k17 v18 h11) h11 fun v15 h16 =>
 popO (pickV v3 (Value.bool true) v15) fun v19 =>
 condV v19
 (R (Value.int IntKind.i64 3) h16)
 (popO (SemP PG (nilS t0)) fun v20 =>
 popO (SemP PG (Instr.fieldAt T_net_Net v20 0)) fun v21 =>
 popO (SemE PG h16 (Instr.loadAt T_sl_api_Message v21)) fun v22 =>
 popO (SemP PG (Instr.indexAt T_sl_api_Message v22 t1)) fun v23 =>
 popO (SemE PG h16 (Instr.loadAt T_api_Message v23)) fun v24 =>
 ∀ r25, h16 r25 = none → bindH (PH.set h16 r25 (.cells (zcells PG T_api_Message) T_api_Message)) fun h26 =>
 SemH PG (storeS T_api_Message (Value.pointer (some ⟨r25, 0, none⟩)) v24) h26 fun v27 h28 =>
 popO (SemP PG (binOp BinOp.lss T_int t1 t2)) fun v29 =>
 condV v29
 (popO (SemP PG (nilS t0)) fun v30 =>
 popO (SemP PG (Instr.fieldAt T_net_Net v30 0)) fun v31 =>
 popO (SemE PG h28 (Instr.loadAt T_sl_api_Message v31)) fun v32 =>
 popO (SemP PG (Instr.sliceAt T_sl_api_Message v32 (some t1) (some t2) none)) fun v33 =>
 popO (SemP PG (nilS t0)) fun v34 =>
 popO (SemP PG (Instr.fieldAt T_net_Net v34 0)) fun v35 =>
 popO (SemE PG h28 (Instr.loadAt T_sl_api_Message v35)) fun v36 =>
 popO (SemP PG (binOp BinOp.add T_int t1 (Value.int IntKind.i64 1))) fun v37 =>
 popO (SemP PG (binOp BinOp.add T_int t2 (Value.int IntKind.i64 1))) fun v38 =>
 popO (SemP PG (Instr.sliceAt T_sl_api_Message v36 (some v37) (some v38) none)) fun v39 =>
 SemH PG (Builtin.copy_ #[T_sl_api_Message, T_sl_api_Message] T_int #[v33, v39]) h28 fun v40 h41 =>
 (net_Net_Move_k42 R t0 t2 (Value.pointer (some ⟨r25, 0, none⟩)) h41))
 (popO (SemP PG (nilS t0)) fun v50 =>
 popO (SemP PG (Instr.fieldAt T_net_Net v50 0)) fun v51 =>
 popO (SemE PG h28 (Instr.loadAt T_sl_api_Message v51)) fun v52 =>
 popO (SemP PG (binOp BinOp.add T_int t2 (Value.int IntKind.i64 1))) fun v53 =>
 popO (SemP PG (binOp BinOp.add T_int t1 (Value.int IntKind.i64 1))) fun v54 =>
 popO (SemP PG (Instr.sliceAt T_sl_api_Message v52 (some v53) (some v54) none)) fun v55 =>
 popO (SemP PG (nilS t0)) fun v56 =>
 popO (SemP PG (Instr.fieldAt T_net_Net v56 0)) fun v57 =>
 popO (SemE PG h28 (Instr.loadAt T_sl_api_Message v57)) fun v58 =>
 popO (SemP PG (Instr.sliceAt T_sl_api_Message v58 (some t2) (some t1) none)) fun v59 =>
 SemH PG (Builtin.copy_ #[T_sl_api_Message, T_sl_api_Message] T_int #[v55, v59]) h28 fun v60 h61 =>
 (net_Net_Move_k42 R t0 t2 (Value.pointer (some ⟨r25, 0, none⟩)) h61)))
def net_Net_Move.ann : Ann := { b := fun i => match i with | 5 => #[0, 1, 3, 7, 0, 0, 63, 0, 128, 384, 896, 0, 2048, 0, 8192, 32640, 65535] | 7 => #[0, 1, 3, 7, 0, 0, 63, 127] | 6 => #[0, 1, 3, 7, 0, 16, 0, 64, 255, 0, 512, 1536, 3584, 0, 0, 32256, 65535] | _ => #[], ord := fun i => match i with | 5 => [0, 1, 2, 3, 4, 5, 6, 7, 8, 9, 10, 11, 12, 13, 14, 15, 16] | 7 => [0, 1, 2, 3, 4, 5, 6, 7] | 6 => [0, 1, 2, 3, 4, 5, 6, 7, 8, 9, 10, 11, 12, 13, 14, 15, 16] | _ => [], keep := fun i => match i with  | _ => [] }
theorem net_Net_Move.eq (t0 : Value) (t1 : Value) (t2 : Value) (h0 : PH) (R : Value → PH → Prop) : codeH PG net_Net_Move.ann (bodyOf Try.f19) (endH PG Try.f19 R) (fun t => (#[t0, t1, t2] : Array Value).getD t undef) h0 = net_Net_Move t0 t1 t2 h0 R := by kernel_rfl
theorem net_Net_Move.call {t0 : Value} {t1 : Value} {t2 : Value} {h0 : PH} {R : Value → PH → Prop} (H : net_Net_Move t0 t1 t2 h0 R) : CallsH PG id_net_Net_Move #[t0, t1, t2] h0 R :=
  callsH_by net_Net_Move.ann mix Try.func19 (by kernel_rfl) (by kernel_rfl) (by kernel_rfl) (by simp [Try.ntmps19]) (net_Net_Move.eq t0 t1 t2 h0 R) H

def net_Net_there (t0 : Value) (t1 : Value) (h0 : PH) (R : Value → PH → Prop) : Prop :=
 popO (SemP PG (binOp BinOp.geq T_int t1 (Value.int IntKind.i64 0))) fun v1 =>
 gopV (yV v1) true (fun k4 => k4 t1 h0) h0 fun v2 h3 =>
 gopV (yV v1) true (fun k7 => k7 t0 h3) h3 fun v5 h6 =>
 gopV (yV v1) true (fun k10 => popO (SemP PG (nilS v5)) fun v11 => k10 v11 h6) h6 fun v8 h9 =>
 gopV (yV v1) true (fun k14 => popO (SemP PG (Instr.fieldAt T_net_Net v8 0)) fun v15 => k14 v15 h9) h9 fun v12 h13 =>
 gopV (yV v1) true (fun k18 => popO (SemE PG h13 (Instr.loadAt T_sl_api_Message v12)) fun v19 => k18 v19 h13) h13 fun v16 h17 =>
 gopV (yV v1) true (fun k22 => popO (SemP PG (Builtin.len_ #[T_sl_api_Message] T_int #[v16])) fun v23 => k22 v23 h17) h17 fun v20 h21 =>
 gopV (yV v1) true (fun k26 => popO (SemP PG (binOp BinOp.lss T_int v2 v20)) fun v27 => k26 v27 h21) h21 fun v24 h25 =>
 popO (pickV v1 v24 (Value.bool false)) fun v28 =>
 R v28 h25
def net_Net_there.ann : Ann := { b := fun i => match i with  | _ => #[], ord := fun i => match i with  | _ => [], keep := fun i => match i with  | _ => [] }
theorem net_Net_there.eq (t0 : Value) (t1 : Value) (h0 : PH) (R : Value → PH → Prop) : codeH PG net_Net_there.ann (bodyOf Try.f45) (endH PG Try.f45 R) (fun t => (#[t0, t1] : Array Value).getD t undef) h0 = net_Net_there t0 t1 h0 R := by kernel_rfl
theorem net_Net_there.call {t0 : Value} {t1 : Value} {h0 : PH} {R : Value → PH → Prop} (H : net_Net_there t0 t1 h0 R) : CallsH PG id_net_Net_there #[t0, t1] h0 R :=
  callsH_by net_Net_there.ann mix Try.func45 (by kernel_rfl) (by kernel_rfl) (by kernel_rfl) (by simp [Try.ntmps45]) (net_Net_there.eq t0 t1 h0 R) H

def carrackref19_Same_b5 (R : Value → PH → Prop) (n4 : List Value → PH → Prop) (t0 : Value) (t1 : Value) (t5 : Value) (h0 : PH) : Prop :=
 popO (SemP PG (Builtin.len_ #[T_sl_api_Message] T_int #[t0])) fun v6 =>
 popO (SemP PG (binOp BinOp.lss T_int t5 v6)) fun v7 =>
 condV v7
 (popO (SemP PG (Instr.indexAt T_sl_api_Message t0 t5)) fun v8 =>
 popO (SemE PG h0 (Instr.loadAt T_api_Message v8)) fun v9 =>
 popO (SemP PG (Instr.indexAt T_sl_api_Message t1 t5)) fun v10 =>
 popO (SemE PG h0 (Instr.loadAt T_api_Message v10)) fun v11 =>
 popO (SemE PG h0 (binS BinOp.neq T_api_Message (.tmp 20) (.tmp 24) v9 v11)) fun v12 =>
 condV v12
 (R (Value.bool false) h0)
 (popO (SemP PG (binOp BinOp.add T_int t5 (Value.int IntKind.i64 1))) fun v13 =>
 n4 [t0, t1, v13] h0))
 (R (Value.bool true) h0)
def carrackref19_Same (t0 : Value) (t1 : Value) (h0 : PH) (R : Value → PH → Prop) : Prop :=
 popO (SemP PG (Builtin.len_ #[T_sl_api_Message] T_int #[t0])) fun v1 =>
 popO (SemP PG (Builtin.len_ #[T_sl_api_Message] T_int #[t1])) fun v2 =>
 popO (SemE PG h0 (binS BinOp.neq T_int (.tmp 7) (.tmp 9) v1 v2)) fun v3 =>
 condV v3
 (R (Value.bool false) h0)
 (LoopL [0, 1, 5] (fun n4 ρ h => carrackref19_Same_b5 R n4 (ρ 0) (ρ 1) (ρ 5) h) [t0, t1, (Value.int IntKind.i64 0)] h0)
def carrackref19_Same.ann : Ann := { b := fun i => match i with | 6 => #[0, 0, 3, 7, 0, 0, 48, 112, 255] | _ => #[], ord := fun i => match i with | 6 => [0, 1, 2, 3, 4, 5, 6, 7, 8] | _ => [], keep := fun i => match i with | 4 => [0, 1, 5] | _ => [] }
theorem carrackref19_Same.eq (t0 : Value) (t1 : Value) (h0 : PH) (R : Value → PH → Prop) : codeH PG carrackref19_Same.ann (bodyOf Try.f20) (endH PG Try.f20 R) (fun t => (#[t0, t1] : Array Value).getD t undef) h0 = carrackref19_Same t0 t1 h0 R := by kernel_rfl
theorem carrackref19_Same.call {t0 : Value} {t1 : Value} {h0 : PH} {R : Value → PH → Prop} (H : carrackref19_Same t0 t1 h0 R) : CallsH PG id_carrackref19_Same #[t0, t1] h0 R :=
  callsH_by carrackref19_Same.ann mix Try.func20 (by kernel_rfl) (by kernel_rfl) (by kernel_rfl) (by simp [Try.ntmps20]) (carrackref19_Same.eq t0 t1 h0 R) H

def net_Net_Twice (t0 : Value) (t1 : Value) (h0 : PH) (R : Value → PH → Prop) : Prop :=
 CallsH PG id_net_Net_there #[t0, t1] h0 fun v1 h2 =>
 popO (SemP PG (Op.unary UnOp.not v1)) fun v3 =>
 condV v3
 (R (Value.int IntKind.i64 3) h2)
 (popO (SemP PG (nilS t0)) fun v4 =>
 popO (SemP PG (Instr.fieldAt T_net_Net v4 0)) fun v5 =>
 popO (SemE PG h2 (Instr.loadAt T_sl_api_Message v5)) fun v6 =>
 popO (SemP PG (Instr.indexAt T_sl_api_Message v6 t1)) fun v7 =>
 popO (SemE PG h2 (Instr.loadAt T_api_Message v7)) fun v8 =>
 popO (SemA PG (Instr.buildSlice T_sl_api_Message 1 #[(0, v8)])) fun x10 => ∀ r9, h2 r9 = none → popO (SemP PG (x10.2 r9)) fun v11 => bindH (PH.set h2 r9 x10.1) fun h12 =>
 CallsH PG id_net_Net_Send #[t0, v11] h12 fun v13 h14 =>
 popO (SemE PG h14 (binS BinOp.eql T_int (.tmp 18) (.const (Value.int IntKind.i64 0)) v13 (Value.int IntKind.i64 0))) fun v15 =>
 condV v15
 (R (Value.int IntKind.i64 2) h14)
 (R (Value.int IntKind.i64 0) h14))
def net_Net_Twice.ann : Ann := { b := fun i => match i with  | _ => #[], ord := fun i => match i with  | _ => [], keep := fun i => match i with  | _ => [] }
theorem net_Net_Twice.eq (t0 : Value) (t1 : Value) (h0 : PH) (R : Value → PH → Prop) : codeH PG net_Net_Twice.ann (bodyOf Try.f21) (endH PG Try.f21 R) (fun t => (#[t0, t1] : Array Value).getD t undef) h0 = net_Net_Twice t0 t1 h0 R := by kernel_rfl
theorem net_Net_Twice.call {t0 : Value} {t1 : Value} {h0 : PH} {R : Value → PH → Prop} (H : net_Net_Twice t0 t1 h0 R) : CallsH PG id_net_Net_Twice #[t0, t1] h0 R :=
  callsH_by net_Net_Twice.ann mix Try.func21 (by kernel_rfl) (by kernel_rfl) (by kernel_rfl) (by simp [Try.ntmps21]) (net_Net_Twice.eq t0 t1 h0 R) H

def carracklaw20_one (t0 : Value) (h0 : PH) (R : Value → PH → Prop) : Prop :=
 ∀ r1, h0 r1 = none → bindH (PH.set h0 r1 (.cells (zcells PG T_api_Message) T_api_Message)) fun h2 =>
 popO (SemP PG (Instr.build T_api_Message #[(0, (Value.int IntKind.i64 1)), (2, t0)])) fun v3 =>
 SemH PG (storeS T_api_Message (Value.pointer (some ⟨r1, 0, none⟩)) v3) h2 fun v4 h5 =>
 popO (SemE PG h5 (Instr.loadAt T_api_Message (Value.pointer (some ⟨r1, 0, none⟩)))) fun v6 =>
 R v6 h5
def carracklaw20_one.ann : Ann := { b := fun i => match i with  | _ => #[], ord := fun i => match i with  | _ => [], keep := fun i => match i with  | _ => [] }
theorem carracklaw20_one.eq (t0 : Value) (h0 : PH) (R : Value → PH → Prop) : codeH PG carracklaw20_one.ann (bodyOf Try.f43) (endH PG Try.f43 R) (fun t => (#[t0] : Array Value).getD t undef) h0 = carracklaw20_one t0 h0 R := by kernel_rfl
theorem carracklaw20_one.call {t0 : Value} {h0 : PH} {R : Value → PH → Prop} (H : carracklaw20_one t0 h0 R) : CallsH PG id_carracklaw20_one #[t0] h0 R :=
  callsH_by carracklaw20_one.ann mix Try.func43 (by kernel_rfl) (by kernel_rfl) (by kernel_rfl) (by simp [Try.ntmps43]) (carracklaw20_one.eq t0 h0 R) H

def carracklaw20_NetCounts_b110 (R : Value → PH → Prop) (n14 : List Value → PH → Prop) (n109 : List Value → PH → Prop) (t0 : Value) (t3 : Value) (t4 : Value) (t5 : Value) (t6 : Value) (t14 : Value) (t15 : Value) (h0 : PH) : Prop :=
 popO (SemP PG (Builtin.len_ #[T_sl_api_Message] T_int #[t14])) fun v111 =>
 popO (SemP PG (binOp BinOp.lss T_int t15 v111)) fun v112 =>
 condV v112
 (popO (SemP PG (Instr.indexAt T_sl_api_Message t14 t15)) fun v113 =>
 popO (SemE PG h0 (Instr.loadAt T_api_Message v113)) fun v114 =>
 popO (SemE PG h0 (Instr.lookup T_map_api_Message_bool t5 v114 false)) fun v115 =>
 popO (SemP PG (Op.unary UnOp.not v115)) fun v116 =>
 condV v116
 (R (Value.bool false) h0)
 (popO (SemP PG (binOp BinOp.add T_int t15 (Value.int IntKind.i64 1))) fun v117 =>
 n109 [t0, t3, t4, t5, t6, t14, v117] h0))
 (popO (SemP PG (binOp BinOp.add T_int t6 (Value.int IntKind.i64 1))) fun v118 =>
 n14 [t0, t3, t4, t5, v118] h0)
def carracklaw20_NetCounts_k66 (R : Value → PH → Prop) (n14 : List Value → PH → Prop) (t0 : Value) (t3 : Value) (t4 : Value) (t5 : Value) (t6 : Value) (t8 : Value) (t9 : Value) (h0 : PH) : Prop :=
 CallsH PG id_net_Net_List #[t3] h0 fun v67 h68 =>
 popO (SemP PG (Builtin.len_ #[T_sl_api_Message] T_int #[v67])) fun v69 =>
 popO (SemE PG h68 (binS BinOp.neq T_int (.tmp 107) (.tmp 108) v69 t4)) fun v70 =>
 gopV (yV v70) false (fun k73 => k73 t4 h68) h68 fun v71 h72 =>
 gopV (yV v70) false (fun k76 => popO (SemP PG (binOp BinOp.gtr T_int v71 (Value.int IntKind.i64 256))) fun v77 => k76 v77 h72) h72 fun v74 h75 =>
 popO (pickV v70 (Value.bool true) v74) fun v78 =>
 gopV (yV v78) false (fun k81 => k81 t9 h75) h75 fun v79 h80 =>
 gopV (yV v78) false (fun k84 => popO (SemP PG (Op.unary UnOp.not v79)) fun v85 => k84 v85 h80) h80 fun v82 h83 =>
 gopV (yV v78) false (fun k88 => k88 v82 h83) h83 fun v86 h87 =>
 gopV (yV v86) true (fun k91 => k91 v67 h87) h87 fun v89 h90 =>
 gopV (yV v86) true (fun k94 => k94 t8 h90) h90 fun v92 h93 =>
 gopV (yV v86) true (fun k97 => CallsH PG id_carrackref19_Same #[v89, v92] h93 fun v98 h99 => k97 v98 h99) h93 fun v95 h96 =>
 gopV (yV v86) true (fun k102 => popO (SemP PG (Op.unary UnOp.not v95)) fun v103 => k102 v103 h96) h96 fun v100 h101 =>
 gopV (yV v78) false (fun k106 => popO (pickV v86 v100 (Value.bool false)) fun v107 => k106 v107 h101) h101 fun v104 h105 =>
 popO (pickV v78 (Value.bool true) v104) fun v108 =>
 condV v108
 (R (Value.bool false) h105)
 (LoopL [0, 3, 4, 5, 6, 14, 15] (fun n109 ρ h => carracklaw20_NetCounts_b110 R n14 n109 (ρ 0) (ρ 3) (ρ 4) (ρ 5) (ρ 6) (ρ 14) (ρ 15) h) [t0, t3, t4, t5, t6, v67, (Value.int IntKind.i64 0)] h105)
def carracklaw20_NetCounts_k65 (R : Value → PH → Prop) (n14 : List Value → PH → Prop) (t0 : Value) (t3 : Value) (t4 : Value) (t5 : Value) (t6 : Value) (t8 : Value) (t9 : Value) (h0 : PH) : Prop :=
 carracklaw20_NetCounts_k66 R n14 t0 t3 t4 t5 t6 t8 t9 h0
def carracklaw20_NetCounts_b56 (R : Value → PH → Prop) (n14 : List Value → PH → Prop) (n55 : List Value → PH → Prop) (t0 : Value) (t3 : Value) (t4 : Value) (t5 : Value) (t6 : Value) (t7 : Value) (t8 : Value) (t9 : Value) (t10 : Value) (t11 : Value) (h0 : PH) : Prop :=
 popO (SemP PG (binOp BinOp.lss T_int t11 t10)) fun v57 =>
 condV v57
 (popO (SemP PG (Instr.fieldAt T_carrackref20_Act t7 3)) fun v58 =>
 popO (SemE PG h0 (Instr.loadAt T_sl_api_Message v58)) fun v59 =>
 popO (SemP PG (Instr.indexAt T_sl_api_Message v59 t11)) fun v60 =>
 popO (SemE PG h0 (Instr.loadAt T_api_Message v60)) fun v61 =>
 SemH PG (mapUpdS T_map_api_Message_bool t5 v61 (Value.bool true)) h0 fun v62 h63 =>
 popO (SemP PG (binOp BinOp.add T_int t11 (Value.int IntKind.i64 1))) fun v64 =>
 n55 [t0, t3, t4, t5, t6, t7, t8, t9, t10, v64] h63)
 (carracklaw20_NetCounts_k65 R n14 t0 t3 t4 t5 t6 t8 t9 h0)
def carracklaw20_NetCounts_b15 (R : Value → PH → Prop) (n14 : List Value → PH → Prop) (t0 : Value) (t3 : Value) (t4 : Value) (t5 : Value) (t6 : Value) (h0 : PH) : Prop :=
 popO (SemP PG (Builtin.len_ #[T_sl_carrackref20_Act] T_int #[t0])) fun v16 =>
 popO (SemP PG (binOp BinOp.lss T_int t6 v16)) fun v17 =>
 condV v17
 (popO (SemP PG (Instr.indexAt T_sl_carrackref20_Act t0 t6)) fun v18 =>
 popO (SemE PG h0 (Instr.loadAt T_carrackref20_Act v18)) fun v19 =>
 ∀ r20, h0 r20 = none → bindH (PH.set h0 r20 (.cells (zcells PG T_carrackref20_Act) T_carrackref20_Act)) fun h21 =>
 SemH PG (storeS T_carrackref20_Act (Value.pointer (some ⟨r20, 0, none⟩)) v19) h21 fun v22 h23 =>
 CallsH PG id_net_Net_List #[t3] h23 fun v24 h25 =>
 popO (SemP PG (Instr.fieldAt T_carrackref20_Act (Value.pointer (some ⟨r20, 0, none⟩)) 0)) fun v26 =>
 popO (SemE PG h25 (Instr.loadAt T_int v26)) fun v27 =>
 popO (SemE PG h25 (binS BinOp.eql T_int (.tmp 38) (.const (Value.int IntKind.i64 0)) v27 (Value.int IntKind.i64 0))) fun v28 =>
 condV v28
 (popO (SemP PG (Instr.fieldAt T_carrackref20_Act (Value.pointer (some ⟨r20, 0, none⟩)) 3)) fun v29 =>
 popO (SemE PG h25 (Instr.loadAt T_sl_api_Message v29)) fun v30 =>
 CallsH PG id_net_Net_Send #[t3, v30] h25 fun v31 h32 =>
 popO (SemP PG (binOp BinOp.lss T_int v31 (Value.int IntKind.i64 0))) fun v33 =>
 gopV (yV v33) false (fun k36 => k36 v31 h32) h32 fun v34 h35 =>
 gopV (yV v33) false (fun k39 => popO (SemP PG (Instr.fieldAt T_carrackref20_Act (Value.pointer (some ⟨r20, 0, none⟩)) 3)) fun v40 => k39 v40 h35) h35 fun v37 h38 =>
 gopV (yV v33) false (fun k43 => popO (SemE PG h38 (Instr.loadAt T_sl_api_Message v37)) fun v44 => k43 v44 h38) h38 fun v41 h42 =>
 gopV (yV v33) false (fun k47 => popO (SemP PG (Builtin.len_ #[T_sl_api_Message] T_int #[v41])) fun v48 => k47 v48 h42) h42 fun v45 h46 =>
 gopV (yV v33) false (fun k51 => popO (SemP PG (binOp BinOp.gtr T_int v34 v45)) fun v52 => k51 v52 h46) h46 fun v49 h50 =>
 popO (pickV v33 (Value.bool true) v49) fun v53 =>
 condV v53
 (R (Value.bool false) h50)
 (popO (SemP PG (binOp BinOp.add T_int t4 v31)) fun v54 =>
 LoopL [0, 3, 4, 5, 6, 7, 8, 9, 10, 11] (fun n55 ρ h => carracklaw20_NetCounts_b56 R n14 n55 (ρ 0) (ρ 3) (ρ 4) (ρ 5) (ρ 6) (ρ 7) (ρ 8) (ρ 9) (ρ 10) (ρ 11) h) [t0, t3, v54, t5, t6, (Value.pointer (some ⟨r20, 0, none⟩)), v24, (Value.bool true), v31, (Value.int IntKind.i64 0)] h50))
 (popO (SemE PG h25 (binS BinOp.eql T_int (.tmp 38) (.const (Value.int IntKind.i64 1)) v27 (Value.int IntKind.i64 1))) fun v119 =>
 condV v119
 (popO (SemP PG (Instr.fieldAt T_carrackref20_Act (Value.pointer (some ⟨r20, 0, none⟩)) 1)) fun v120 =>
 popO (SemE PG h25 (Instr.loadAt T_int v120)) fun v121 =>
 CallsH PG id_net_Net_Take #[t3, v121] h25 fun v122 h123 =>
 popO (SemP PG (Instr.extract v122 0)) fun v124 =>
 popO (SemP PG (Instr.extract v122 1)) fun v125 =>
 ∀ r126, h123 r126 = none → bindH (PH.set h123 r126 (.cells (zcells PG T_api_Message) T_api_Message)) fun h127 =>
 SemH PG (storeS T_api_Message (Value.pointer (some ⟨r126, 0, none⟩)) v124) h127 fun v128 h129 =>
 popO (SemE PG h129 (binS BinOp.eql T_api_Errno (.tmp 84) (.const (Value.int IntKind.i64 0)) v125 (Value.int IntKind.i64 0))) fun v130 =>
 condV v130
 (popO (SemP PG (binOp BinOp.sub T_int t4 (Value.int IntKind.i64 1))) fun v131 =>
 popO (SemE PG h129 (Instr.loadAt T_api_Message (Value.pointer (some ⟨r126, 0, none⟩)))) fun v132 =>
 popO (SemE PG h129 (Instr.lookup T_map_api_Message_bool t5 v132 false)) fun v133 =>
 popO (SemP PG (Op.unary UnOp.not v133)) fun v134 =>
 condV v134
 (R (Value.bool false) h129)
 (carracklaw20_NetCounts_k65 R n14 t0 t3 v131 t5 t6 v24 v133 h129))
 (carracklaw20_NetCounts_k65 R n14 t0 t3 t4 t5 t6 v24 v130 h129))
 (popO (SemE PG h25 (binS BinOp.eql T_int (.tmp 38) (.const (Value.int IntKind.i64 2)) v27 (Value.int IntKind.i64 2))) fun v135 =>
 condV v135
 (popO (SemP PG (Instr.fieldAt T_carrackref20_Act (Value.pointer (some ⟨r20, 0, none⟩)) 1)) fun v136 =>
 popO (SemE PG h25 (Instr.loadAt T_int v136)) fun v137 =>
 CallsH PG id_net_Net_Twice #[t3, v137] h25 fun v138 h139 =>
 popO (SemE PG h139 (binS BinOp.eql T_api_Errno (.tmp 99) (.const (Value.int IntKind.i64 0)) v138 (Value.int IntKind.i64 0))) fun v140 =>
 condV v140
 (popO (SemP PG (binOp BinOp.add T_int t4 (Value.int IntKind.i64 1))) fun v141 =>
 carracklaw20_NetCounts_k65 R n14 t0 t3 v141 t5 t6 v24 v140 h139)
 (carracklaw20_NetCounts_k65 R n14 t0 t3 t4 t5 t6 v24 v140 h139))
 (popO (SemP PG (Instr.fieldAt T_carrackref20_Act (Value.pointer (some ⟨r20, 0, none⟩)) 1)) fun v142 =>
 popO (SemE PG h25 (Instr.loadAt T_int v142)) fun v143 =>
 popO (SemP PG (Instr.fieldAt T_carrackref20_Act (Value.pointer (some ⟨r20, 0, none⟩)) 2)) fun v144 =>
 popO (SemE PG h25 (Instr.loadAt T_int v144)) fun v145 =>
 CallsH PG id_net_Net_Move #[t3, v143, v145] h25 fun v146 h147 =>
 popO (SemE PG h147 (binS BinOp.eql T_api_Errno (.tmp 44) (.const (Value.int IntKind.i64 0)) v146 (Value.int IntKind.i64 0))) fun v148 =>
 carracklaw20_NetCounts_k65 R n14 t0 t3 t4 t5 t6 v24 v148 h147))))
 (R (Value.bool true) h0)
def carracklaw20_NetCounts (t0 : Value) (h0 : PH) (R : Value → PH → Prop) : Prop :=
 CallsH PG id_carracklaw20_awake #[] h0 fun v1 h2 =>
 popO (SemP PG (Op.unary UnOp.not v1)) fun v3 =>
 condV v3
 (R (Value.bool false) h2)
 (CallsH PG id_carracklaw20_few #[t0] h2 fun v4 h5 =>
 popO (SemP PG (Op.unary UnOp.not v4)) fun v6 =>
 condV v6
 (R (Value.bool true) h5)
 (CallsH PG id_net_New #[] h5 fun v7 h8 =>
 popO (SemE PG h8 (binS BinOp.eql T_p_net_Net (.tmp 22) (.const (Value.pointer none)) v7 (Value.pointer none))) fun v9 =>
 condV v9
 (R (Value.bool false) h8)
 (popO (SemA PG (Instr.makeMap T_map_api_Message_bool none)) fun x11 => ∀ r10, h8 r10 = none → popO (SemP PG (x11.2 r10)) fun v12 => bindH (PH.set h8 r10 x11.1) fun h13 =>
 LoopL [0, 3, 4, 5, 6] (fun n14 ρ h => carracklaw20_NetCounts_b15 R n14 (ρ 0) (ρ 3) (ρ 4) (ρ 5) (ρ 6) h) [t0, v7, (Value.int IntKind.i64 0), v12, (Value.int IntKind.i64 0)] h13)))
def carracklaw20_NetCounts.ann : Ann := { b := fun i => match i with  | _ => #[], ord := fun i => match i with  | _ => [], keep := fun i => match i with | 11 => [0, 3, 4, 5, 6] | 24 => [0, 3, 4, 5, 6, 7, 8, 9, 10, 11] | 43 => [0, 3, 4, 5, 6, 14, 15] | _ => [] }
theorem carracklaw20_NetCounts.eq (t0 : Value) (h0 : PH) (R : Value → PH → Prop) : codeH PG carracklaw20_NetCounts.ann (bodyOf Try.f5) (endH PG Try.f5 R) (fun t => (#[t0] : Array Value).getD t undef) h0 = carracklaw20_NetCounts t0 h0 R := by kernel_rfl
theorem carracklaw20_NetCounts.call {t0 : Value} {h0 : PH} {R : Value → PH → Prop} (H : carracklaw20_NetCounts t0 h0 R) : CallsH PG id_carracklaw20_NetCounts #[t0] h0 R :=
  callsH_by carracklaw20_NetCounts.ann mix Try.func5 (by kernel_rfl) (by kernel_rfl) (by kernel_rfl) (by simp [Try.ntmps5]) (carracklaw20_NetCounts.eq t0 h0 R) H

def carracklaw20_few_b4 (R : Value → PH → Prop) (n3 : List Value → PH → Prop) (t0 : Value) (t3 : Value) (h0 : PH) : Prop :=
 popO (SemP PG (Builtin.len_ #[T_sl_carrackref20_Act] T_int #[t0])) fun v5 =>
 popO (SemP PG (binOp BinOp.lss T_int t3 v5)) fun v6 =>
 condV v6
 (popO (SemP PG (Instr.indexAt T_sl_carrackref20_Act t0 t3)) fun v7 =>
 popO (SemP PG (Instr.fieldAt T_carrackref20_Act v7 3)) fun v8 =>
 popO (SemE PG h0 (Instr.loadAt T_sl_api_Message v8)) fun v9 =>
 popO (SemP PG (Builtin.len_ #[T_sl_api_Message] T_int #[v9])) fun v10 =>
 popO (SemP PG (binOp BinOp.gtr T_int v10 (Value.int IntKind.i64 300))) fun v11 =>
 condV v11
 (R (Value.bool false) h0)
 (popO (SemP PG (binOp BinOp.add T_int t3 (Value.int IntKind.i64 1))) fun v12 =>
 n3 [t0, v12] h0))
 (R (Value.bool true) h0)
def carracklaw20_few (t0 : Value) (h0 : PH) (R : Value → PH → Prop) : Prop :=
 popO (SemP PG (Builtin.len_ #[T_sl_carrackref20_Act] T_int #[t0])) fun v1 =>
 popO (SemP PG (binOp BinOp.gtr T_int v1 (Value.int IntKind.i64 60))) fun v2 =>
 condV v2
 (R (Value.bool false) h0)
 (LoopL [0, 3] (fun n3 ρ h => carracklaw20_few_b4 R n3 (ρ 0) (ρ 3) h) [t0, (Value.int IntKind.i64 0)] h0)
def carracklaw20_few.ann : Ann := { b := fun i => match i with  | _ => #[], ord := fun i => match i with  | _ => [], keep := fun i => match i with | 4 => [0, 3] | _ => [] }
theorem carracklaw20_few.eq (t0 : Value) (h0 : PH) (R : Value → PH → Prop) : codeH PG carracklaw20_few.ann (bodyOf Try.f22) (endH PG Try.f22 R) (fun t => (#[t0] : Array Value).getD t undef) h0 = carracklaw20_few t0 h0 R := by kernel_rfl
theorem carracklaw20_few.call {t0 : Value} {h0 : PH} {R : Value → PH → Prop} (H : carracklaw20_few t0 h0 R) : CallsH PG id_carracklaw20_few #[t0] h0 R :=
  callsH_by carracklaw20_few.ann mix Try.func22 (by kernel_rfl) (by kernel_rfl) (by kernel_rfl) (by simp [Try.ntmps22]) (carracklaw20_few.eq t0 h0 R) H

def net_Net_Take (t0 : Value) (t1 : Value) (h0 : PH) (R : Value → PH → Prop) : Prop :=
 ∀ r1, h0 r1 = none → bindH (PH.set h0 r1 (.cells (zcells PG T_api_Message) T_api_Message)) fun h2 =>
 CallsH PG id_net_Net_there #[t0, t1] h2 fun v3 h4 =>
 popO (SemP PG (Op.unary UnOp.not v3)) fun v5 =>
 condV v5
 (popO (SemP PG (Instr.build T_api_Message #[])) fun v6 =>
 SemH PG (storeS T_api_Message (Value.pointer (some ⟨r1, 0, none⟩)) v6) h4 fun v7 h8 =>
 popO (SemE PG h8 (Instr.loadAt T_api_Message (Value.pointer (some ⟨r1, 0, none⟩)))) fun v9 =>
 R (Value.tuple #[v9, (Value.int IntKind.i64 3)]) h8)
 (popO (SemP PG (nilS t0)) fun v10 =>
 popO (SemP PG (Instr.fieldAt T_net_Net v10 0)) fun v11 =>
 popO (SemE PG h4 (Instr.loadAt T_sl_api_Message v11)) fun v12 =>
 popO (SemP PG (Instr.indexAt T_sl_api_Message v12 t1)) fun v13 =>
 popO (SemE PG h4 (Instr.loadAt T_api_Message v13)) fun v14 =>
 ∀ r15, h4 r15 = none → bindH (PH.set h4 r15 (.cells (zcells PG T_api_Message) T_api_Message)) fun h16 =>
 SemH PG (storeS T_api_Message (Value.pointer (some ⟨r15, 0, none⟩)) v14) h16 fun v17 h18 =>
 popO (SemP PG (nilS t0)) fun v19 =>
 popO (SemP PG (Instr.fieldAt T_net_Net v19 0)) fun v20 =>
 popO (SemE PG h18 (Instr.loadAt T_sl_api_Message v20)) fun v21 =>
 popO (SemP PG (binOp BinOp.add T_int t1 (Value.int IntKind.i64 1))) fun v22 =>
 CallsH PG id_slices_Delete_sl_api_Message_api_Message #[v21, t1, v22] h18 fun v23 h24 =>
 popO (SemP PG (nilS t0)) fun v25 =>
 popO (SemP PG (Instr.fieldAt T_net_Net v25 0)) fun v26 =>
 SemH PG (storeS T_sl_api_Message v26 v23) h24 fun v27 h28 =>
 popO (SemE PG h28 (Instr.loadAt T_api_Message (Value.pointer (some ⟨r15, 0, none⟩)))) fun v29 =>
 SemH PG (storeS T_api_Message (Value.pointer (some ⟨r1, 0, none⟩)) v29) h28 fun v30 h31 =>
 popO (SemE PG h31 (Instr.loadAt T_api_Message (Value.pointer (some ⟨r1, 0, none⟩)))) fun v32 =>
 R (Value.tuple #[v32, (Value.int IntKind.i64 0)]) h31)
def net_Net_Take.ann : Ann := { b := fun i => match i with  | _ => #[], ord := fun i => match i with  | _ => [], keep := fun i => match i with  | _ => [] }
theorem net_Net_Take.eq (t0 : Value) (t1 : Value) (h0 : PH) (R : Value → PH → Prop) : codeH PG net_Net_Take.ann (bodyOf Try.f23) (endH PG Try.f23 R) (fun t => (#[t0, t1] : Array Value).getD t undef) h0 = net_Net_Take t0 t1 h0 R := by kernel_rfl
theorem net_Net_Take.call {t0 : Value} {t1 : Value} {h0 : PH} {R : Value → PH → Prop} (H : net_Net_Take t0 t1 h0 R) : CallsH PG id_net_Net_Take #[t0, t1] h0 R :=
  callsH_by net_Net_Take.ann mix Try.func23 (by kernel_rfl) (by kernel_rfl) (by kernel_rfl) (by simp [Try.ntmps23]) (net_Net_Take.eq t0 t1 h0 R) H

def slices_Delete_sl_api_Message_api_Message (t0 : Value) (t1 : Value) (t2 : Value) (h0 : PH) (R : Value → PH → Prop) : Prop :=
 popO (SemP PG (Builtin.len_ #[T_sl_api_Message] T_int #[t0])) fun v1 =>
 popO (SemP PG (Instr.sliceAt T_sl_api_Message t0 (some t1) (some t2) (some v1))) fun v2 =>
 popO (SemE PG h0 (binS BinOp.eql T_int (.tmp 14) (.tmp 15) t1 t2)) fun v3 =>
 condV v3
 (R t0 h0)
 (popO (SemP PG (Builtin.len_ #[T_sl_api_Message] T_int #[t0])) fun v4 =>
 popO (SemP PG (Instr.sliceAt T_sl_api_Message t0 none (some t1) none)) fun v5 =>
 popO (SemP PG (Instr.sliceAt T_sl_api_Message t0 (some t2) none none)) fun v6 =>
 SemH PG (Builtin.append_ #[T_sl_api_Message, T_sl_api_Message] T_sl_api_Message #[v5, v6]) h0 fun v7 h8 =>
 (popO (SemP PG (Builtin.len_ #[T_sl_api_Message] T_int #[v7])) fun v9 =>
 popO (SemP PG (Instr.sliceAt T_sl_api_Message v7 (some v9) (some v4) none)) fun v10 =>
 SemH PG (Builtin.clear_ #[T_sl_api_Message] T_ #[v10]) h8 fun v11 h12 =>
 R v7 h12))
def slices_Delete_sl_api_Message_api_Message.ann : Ann := { b := fun i => match i with | 5 => #[0, 0, 3, 0, 0, 24, 63, 127] | _ => #[], ord := fun i => match i with | 5 => [0, 1, 2, 3, 4, 5, 6, 7] | _ => [], keep := fun i => match i with  | _ => [] }
theorem slices_Delete_sl_api_Message_api_Message.eq (t0 : Value) (t1 : Value) (t2 : Value) (h0 : PH) (R : Value → PH → Prop) : codeH PG slices_Delete_sl_api_Message_api_Message.ann (bodyOf Try.f46) (endH PG Try.f46 R) (fun t => (#[t0, t1, t2] : Array Value).getD t undef) h0 = slices_Delete_sl_api_Message_api_Message t0 t1 t2 h0 R := by kernel_rfl
theorem slices_Delete_sl_api_Message_api_Message.call {t0 : Value} {t1 : Value} {t2 : Value} {h0 : PH} {R : Value → PH → Prop} (H : slices_Delete_sl_api_Message_api_Message t0 t1 t2 h0 R) : CallsH PG id_slices_Delete_sl_api_Message_api_Message #[t0, t1, t2] h0 R :=
  callsH_by slices_Delete_sl_api_Message_api_Message.ann mix Try.func46 (by kernel_rfl) (by kernel_rfl) (by kernel_rfl) (by simp [Try.ntmps46]) (slices_Delete_sl_api_Message_api_Message.eq t0 t1 t2 h0 R) H

def carracklaw20_NetPlays_k36 (R : Value → PH → Prop) (n13 : List Value → PH → Prop) (t0 : Value) (t3 : Value) (t4 : Value) (t5 : Value) (t7 : Value) (h0 : PH) : Prop :=
 popO (SemP PG (Op.unary UnOp.not t7)) fun v37 =>
 gopV (yV v37) false (fun k40 => k40 t3 h0) h0 fun v38 h39 =>
 gopV (yV v37) false (fun k43 => k43 t4 h39) h39 fun v41 h42 =>
 gopV (yV v37) false (fun k46 => popO (SemP PG (nilS v41)) fun v47 => k46 v47 h42) h42 fun v44 h45 =>
 gopV (yV v37) false (fun k50 => popO (SemP PG (Instr.fieldAt T_carrackref20_Net v44 0)) fun v51 => k50 v51 h45) h45 fun v48 h49 =>
 gopV (yV v37) false (fun k54 => popO (SemE PG h49 (Instr.loadAt T_sl_api_Message v48)) fun v55 => k54 v55 h49) h49 fun v52 h53 =>
 gopV (yV v37) false (fun k58 => CallsH PG id_net_Net_List #[v38] h53 fun v59 h60 => k58 v59 h60) h53 fun v56 h57 =>
 ((yV v37 == some false) = true → SemE PG h57 (Instr.loadAt T_sl_api_Message v48) = some v52) ∧ (gopV (yV v37) false (fun k63 => CallsH PG id_carrackref19_Same #[v56, v52] h57 fun v64 h65 => k63 v64 h65) h57 fun v61 h62 =>
 (gopV (yV v37) false (fun k68 => popO (SemP PG (Op.unary UnOp.not v61)) fun v69 => k68 v69 h62) h62 fun v66 h67 =>
 popO (pickV v37 (Value.bool true) v66) fun v70 =>
 gopV (yV v70) false (fun k73 => k73 t3 h67) h67 fun v71 h72 =>
 gopV (yV v70) false (fun k76 => k76 t4 h72) h72 fun v74 h75 =>
 gopV (yV v70) false (fun k79 => popO (SemP PG (nilS v74)) fun v80 => k79 v80 h75) h75 fun v77 h78 =>
 gopV (yV v70) false (fun k83 => popO (SemP PG (Instr.fieldAt T_carrackref20_Net v77 0)) fun v84 => k83 v84 h78) h78 fun v81 h82 =>
 gopV (yV v70) false (fun k87 => popO (SemE PG h82 (Instr.loadAt T_sl_api_Message v81)) fun v88 => k87 v88 h82) h82 fun v85 h86 =>
 gopV (yV v70) false (fun k91 => popO (SemP PG (Builtin.len_ #[T_sl_api_Message] T_int #[v85])) fun v92 => k91 v92 h86) h86 fun v89 h90 =>
 gopV (yV v70) false (fun k95 => CallsH PG id_net_Net_Len #[v71] h90 fun v96 h97 => k95 v96 h97) h90 fun v93 h94 =>
 ((yV v70 == some false) = true → SemE PG h94 (Instr.loadAt T_sl_api_Message v81) = some v85) ∧ (gopV (yV v70) false (fun k100 => popO (SemE PG h94 (binS BinOp.neq T_int (.tmp 107) (.tmp 112) v93 v89)) fun v101 => k100 v101 h94) h94 fun v98 h99 =>
 popO (pickV v70 (Value.bool true) v98) fun v102 =>
 condV v102
 (R (Value.bool false) h99)
 (popO (SemP PG (binOp BinOp.add T_int t5 (Value.int IntKind.i64 1))) fun v103 =>
 n13 [t0, t3, t4, v103] h99))))
def carracklaw20_NetPlays_k35 (R : Value → PH → Prop) (n13 : List Value → PH → Prop) (t0 : Value) (t3 : Value) (t4 : Value) (t5 : Value) (t7 : Value) (h0 : PH) : Prop :=
 carracklaw20_NetPlays_k36 R n13 t0 t3 t4 t5 t7 h0
def carracklaw20_NetPlays_b14 (R : Value → PH → Prop) (n13 : List Value → PH → Prop) (t0 : Value) (t3 : Value) (t4 : Value) (t5 : Value) (h0 : PH) : Prop :=
 popO (SemP PG (Builtin.len_ #[T_sl_carrackref20_Act] T_int #[t0])) fun v15 =>
 popO (SemP PG (binOp BinOp.lss T_int t5 v15)) fun v16 =>
 condV v16
 (popO (SemP PG (Instr.indexAt T_sl_carrackref20_Act t0 t5)) fun v17 =>
 popO (SemE PG h0 (Instr.loadAt T_carrackref20_Act v17)) fun v18 =>
 ∀ r19, h0 r19 = none → bindH (PH.set h0 r19 (.cells (zcells PG T_carrackref20_Act) T_carrackref20_Act)) fun h20 =>
 SemH PG (storeS T_carrackref20_Act (Value.pointer (some ⟨r19, 0, none⟩)) v18) h20 fun v21 h22 =>
 popO (SemP PG (Instr.fieldAt T_carrackref20_Act (Value.pointer (some ⟨r19, 0, none⟩)) 0)) fun v23 =>
 popO (SemE PG h22 (Instr.loadAt T_int v23)) fun v24 =>
 popO (SemE PG h22 (binS BinOp.eql T_int (.tmp 33) (.const (Value.int IntKind.i64 0)) v24 (Value.int IntKind.i64 0))) fun v25 =>
 condV v25
 (popO (SemP PG (Instr.fieldAt T_carrackref20_Act (Value.pointer (some ⟨r19, 0, none⟩)) 3)) fun v26 =>
 popO (SemE PG h22 (Instr.loadAt T_sl_api_Message v26)) fun v27 =>
 popO (SemP PG (Instr.fieldAt T_carrackref20_Act (Value.pointer (some ⟨r19, 0, none⟩)) 3)) fun v28 =>
 popO (SemE PG h22 (Instr.loadAt T_sl_api_Message v28)) fun v29 =>
 CallsH PG id_net_Net_Send #[t3, v27] h22 fun v30 h31 =>
 SemE PG h31 (Instr.loadAt T_sl_api_Message v28) = some v29 ∧ (CallsH PG id_carrackref20_Net_Send #[t4, v29] h31 fun v32 h33 =>
 (popO (SemE PG h33 (binS BinOp.eql T_int (.tmp 52) (.tmp 56) v30 v32)) fun v34 =>
 carracklaw20_NetPlays_k35 R n13 t0 t3 t4 t5 v34 h33)))
 (popO (SemE PG h22 (binS BinOp.eql T_int (.tmp 33) (.const (Value.int IntKind.i64 1)) v24 (Value.int IntKind.i64 1))) fun v104 =>
 condV v104
 (popO (SemP PG (Instr.fieldAt T_carrackref20_Act (Value.pointer (some ⟨r19, 0, none⟩)) 1)) fun v105 =>
 popO (SemE PG h22 (Instr.loadAt T_int v105)) fun v106 =>
 CallsH PG id_net_Net_Take #[t3, v106] h22 fun v107 h108 =>
 popO (SemP PG (Instr.extract v107 0)) fun v109 =>
 popO (SemP PG (Instr.extract v107 1)) fun v110 =>
 ∀ r111, h108 r111 = none → bindH (PH.set h108 r111 (.cells (zcells PG T_api_Message) T_api_Message)) fun h112 =>
 SemH PG (storeS T_api_Message (Value.pointer (some ⟨r111, 0, none⟩)) v109) h112 fun v113 h114 =>
 popO (SemP PG (Instr.fieldAt T_carrackref20_Act (Value.pointer (some ⟨r19, 0, none⟩)) 1)) fun v115 =>
 popO (SemE PG h114 (Instr.loadAt T_int v115)) fun v116 =>
 CallsH PG id_carrackref20_Net_Take #[t4, v116] h114 fun v117 h118 =>
 popO (SemP PG (Instr.extract v117 0)) fun v119 =>
 popO (SemP PG (Instr.extract v117 1)) fun v120 =>
 ∀ r121, h118 r121 = none → bindH (PH.set h118 r121 (.cells (zcells PG T_api_Message) T_api_Message)) fun h122 =>
 SemH PG (storeS T_api_Message (Value.pointer (some ⟨r121, 0, none⟩)) v119) h122 fun v123 h124 =>
 popO (SemE PG h124 (Instr.loadAt T_api_Message (Value.pointer (some ⟨r111, 0, none⟩)))) fun v125 =>
 popO (SemE PG h124 (Instr.loadAt T_api_Message (Value.pointer (some ⟨r121, 0, none⟩)))) fun v126 =>
 popO (SemE PG h124 (binS BinOp.eql T_api_Message (.tmp 74) (.tmp 75) v125 v126)) fun v127 =>
 gopV (yV v127) true (fun k130 => k130 v110 h124) h124 fun v128 h129 =>
 gopV (yV v127) true (fun k133 => k133 v120 h129) h129 fun v131 h132 =>
 gopV (yV v127) true (fun k136 => popO (SemE PG h132 (binS BinOp.eql T_int (.tmp 78) (.tmp 79) v128 v131)) fun v137 => k136 v137 h132) h132 fun v134 h135 =>
 popO (pickV v127 v134 (Value.bool false)) fun v138 =>
 carracklaw20_NetPlays_k35 R n13 t0 t3 t4 t5 v138 h135)
 (popO (SemE PG h22 (binS BinOp.eql T_int (.tmp 33) (.const (Value.int IntKind.i64 2)) v24 (Value.int IntKind.i64 2))) fun v139 =>
 condV v139
 (popO (SemP PG (Instr.fieldAt T_carrackref20_Act (Value.pointer (some ⟨r19, 0, none⟩)) 1)) fun v140 =>
 popO (SemE PG h22 (Instr.loadAt T_int v140)) fun v141 =>
 popO (SemP PG (Instr.fieldAt T_carrackref20_Act (Value.pointer (some ⟨r19, 0, none⟩)) 1)) fun v142 =>
 popO (SemE PG h22 (Instr.loadAt T_int v142)) fun v143 =>
 CallsH PG id_net_Net_Twice #[t3, v141] h22 fun v144 h145 =>
 SemE PG h145 (Instr.loadAt T_int v142) = some v143 ∧ (CallsH PG id_carrackref20_Net_Twice #[t4, v143] h145 fun v146 h147 =>
 (popO (SemE PG h147 (binS BinOp.eql T_int (.tmp 87) (.tmp 91) v144 v146)) fun v148 =>
 carracklaw20_NetPlays_k35 R n13 t0 t3 t4 t5 v148 h147)))
 (popO (SemP PG (Instr.fieldAt T_carrackref20_Act (Value.pointer (some ⟨r19, 0, none⟩)) 1)) fun v149 =>
 popO (SemE PG h22 (Instr.loadAt T_int v149)) fun v150 =>
 popO (SemP PG (Instr.fieldAt T_carrackref20_Act (Value.pointer (some ⟨r19, 0, none⟩)) 2)) fun v151 =>
 popO (SemE PG h22 (Instr.loadAt T_int v151)) fun v152 =>
 popO (SemP PG (Instr.fieldAt T_carrackref20_Act (Value.pointer (some ⟨r19, 0, none⟩)) 1)) fun v153 =>
 popO (SemE PG h22 (Instr.loadAt T_int v153)) fun v154 =>
 popO (SemP PG (Instr.fieldAt T_carrackref20_Act (Value.pointer (some ⟨r19, 0, none⟩)) 2)) fun v155 =>
 popO (SemE PG h22 (Instr.loadAt T_int v155)) fun v156 =>
 CallsH PG id_net_Net_Move #[t3, v150, v152] h22 fun v157 h158 =>
 SemE PG h158 (Instr.loadAt T_int v155) = some v156 ∧ SemE PG h158 (Instr.loadAt T_int v153) = some v154 ∧ (CallsH PG id_carrackref20_Net_Move #[t4, v154, v156] h158 fun v159 h160 =>
 (popO (SemE PG h160 (binS BinOp.eql T_int (.tmp 39) (.tmp 45) v157 v159)) fun v161 =>
 carracklaw20_NetPlays_k35 R n13 t0 t3 t4 t5 v161 h160))))))
 (R (Value.bool true) h0)
def carracklaw20_NetPlays (t0 : Value) (h0 : PH) (R : Value → PH → Prop) : Prop :=
 CallsH PG id_carracklaw20_awake #[] h0 fun v1 h2 =>
 popO (SemP PG (Op.unary UnOp.not v1)) fun v3 =>
 condV v3
 (R (Value.bool false) h2)
 (CallsH PG id_carracklaw20_few #[t0] h2 fun v4 h5 =>
 popO (SemP PG (Op.unary UnOp.not v4)) fun v6 =>
 condV v6
 (R (Value.bool true) h5)
 (CallsH PG id_net_New #[] h5 fun v7 h8 =>
 popO (SemP PG (Instr.build T_carrackref20_Net #[])) fun v9 =>
 ∀ r10, h8 r10 = none → bindH (PH.set h8 r10 (.cells (Value.cells v9) T_carrackref20_Net)) fun h11 =>
 popO (SemE PG h11 (binS BinOp.eql T_p_net_Net (.tmp 20) (.const (Value.pointer none)) v7 (Value.pointer none))) fun v12 =>
 condV v12
 (R (Value.bool false) h11)
 (LoopL [0, 3, 4, 5] (fun n13 ρ h => carracklaw20_NetPlays_b14 R n13 (ρ 0) (ρ 3) (ρ 4) (ρ 5) h) [t0, v7, (Value.pointer (some ⟨r10, 0, none⟩)), (Value.int IntKind.i64 0)] h11)))
def carracklaw20_NetPlays.ann : Ann := { b := fun i => match i with | 16 => #[0, 0, 2, 7, 0, 0, 32, 127, 255, 511] | 23 => #[0, 1, 3, 7, 15, 7, 39, 103, 231, 511, 1023, 2047, 4095, 8191, 16383, 8191, 40959, 106495, 237567, 499711, 1048575, 2097151] | 22 => #[0, 0, 2, 7, 0, 0, 32, 127, 255, 511] | 14 => #[0, 0, 2, 0, 8, 31, 0, 0, 128, 0, 512, 2047, 4095, 8191] | _ => #[], ord := fun i => match i with | 16 => [0, 1, 2, 4, 5, 6, 3, 7, 8, 9] | 23 => [0, 1, 2, 3, 5, 6, 7, 8, 4, 9, 10, 11, 12, 13, 15, 16, 17, 18, 19, 14, 20, 21] | 22 => [0, 1, 2, 4, 5, 6, 3, 7, 8, 9] | 14 => [0, 1, 2, 3, 4, 6, 7, 8, 9, 10, 5, 11, 12, 13] | _ => [], keep := fun i => match i with | 9 => [0, 3, 4, 5] | _ => [] }
theorem carracklaw20_NetPlays.eq (t0 : Value) (h0 : PH) (R : Value → PH → Prop) : codeH PG carracklaw20_NetPlays.ann (bodyOf Try.f6) (endH PG Try.f6 R) (fun t => (#[t0] : Array Value).getD t undef) h0 = carracklaw20_NetPlays t0 h0 R := by kernel_rfl
theorem carracklaw20_NetPlays.call {t0 : Value} {h0 : PH} {R : Value → PH → Prop} (H : carracklaw20_NetPlays t0 h0 R) : CallsH PG id_carracklaw20_NetPlays #[t0] h0 R :=
  callsH_by carracklaw20_NetPlays.ann mix Try.func6 (by kernel_rfl) (by kernel_rfl) (by kernel_rfl) (by simp [Try.ntmps6]) (carracklaw20_NetPlays.eq t0 h0 R) H

def carrackref20_Net_Send_b2 (R : Value → PH → Prop) (n1 : List Value → PH → Prop) (t0 : Value) (t1 : Value) (t5 : Value) (h0 : PH) : Prop :=
 popO (SemP PG (Builtin.len_ #[T_sl_api_Message] T_int #[t1])) fun v3 =>
 popO (SemP PG (binOp BinOp.lss T_int t5 v3)) fun v4 =>
 gopV (yV v4) true (fun k7 => k7 t0 h0) h0 fun v5 h6 =>
 gopV (yV v4) true (fun k10 => popO (SemP PG (nilS v5)) fun v11 => k10 v11 h6) h6 fun v8 h9 =>
 gopV (yV v4) true (fun k14 => popO (SemP PG (Instr.fieldAt T_carrackref20_Net v8 0)) fun v15 => k14 v15 h9) h9 fun v12 h13 =>
 gopV (yV v4) true (fun k18 => popO (SemE PG h13 (Instr.loadAt T_sl_api_Message v12)) fun v19 => k18 v19 h13) h13 fun v16 h17 =>
 gopV (yV v4) true (fun k22 => popO (SemP PG (Builtin.len_ #[T_sl_api_Message] T_int #[v16])) fun v23 => k22 v23 h17) h17 fun v20 h21 =>
 gopV (yV v4) true (fun k26 => popO (SemP PG (binOp BinOp.lss T_int v20 (Value.int IntKind.i64 256))) fun v27 => k26 v27 h21) h21 fun v24 h25 =>
 popO (pickV v4 v24 (Value.bool false)) fun v28 =>
 condV v28
 (popO (SemP PG (nilS t0)) fun v29 =>
 popO (SemP PG (Instr.fieldAt T_carrackref20_Net v29 0)) fun v30 =>
 popO (SemE PG h25 (Instr.loadAt T_sl_api_Message v30)) fun v31 =>
 popO (SemP PG (Instr.indexAt T_sl_api_Message t1 t5)) fun v32 =>
 popO (SemE PG h25 (Instr.loadAt T_api_Message v32)) fun v33 =>
 popO (SemA PG (Instr.buildSlice T_sl_api_Message 0 #[])) fun x35 => ∀ r34, h25 r34 = none → popO (SemP PG (x35.2 r34)) fun v36 => bindH (PH.set h25 r34 x35.1) fun h37 =>
 SemH PG (Builtin.append_ #[T_sl_api_Message, T_sl_api_Message] T_sl_api_Message #[v36, v31]) h37 fun v38 h39 =>
 SemE PG h39 (Instr.loadAt T_api_Message v32) = some v33 ∧ (popO (SemA PG (Instr.buildSlice T_sl_api_Message 1 #[(0, v33)])) fun x41 => ∀ r40, h39 r40 = none → popO (SemP PG (x41.2 r40)) fun v42 => bindH (PH.set h39 r40 x41.1) fun h43 =>
 SemH PG (Builtin.append_ #[T_sl_api_Message, T_sl_api_Message] T_sl_api_Message #[v38, v42]) h43 fun v44 h45 =>
 (popO (SemP PG (nilS t0)) fun v46 =>
 popO (SemP PG (Instr.fieldAt T_carrackref20_Net v46 0)) fun v47 =>
 SemH PG (storeS T_sl_api_Message v47 v44) h45 fun v48 h49 =>
 (popO (SemP PG (binOp BinOp.add T_int t5 (Value.int IntKind.i64 1))) fun v50 =>
 n1 [t0, t1, v50] h49))))
 (R t5 h25)
def carrackref20_Net_Send (t0 : Value) (t1 : Value) (h0 : PH) (R : Value → PH → Prop) : Prop :=
 LoopL [0, 1, 5] (fun n1 ρ h => carrackref20_Net_Send_b2 R n1 (ρ 0) (ρ 1) (ρ 5) h) [t0, t1, (Value.int IntKind.i64 0)] h0
def carrackref20_Net_Send.ann : Ann := { b := fun i => match i with | 3 => #[0, 0, 0, 4, 12, 28, 62, 0, 0, 384, 896, 1920, 4094, 8191, 16383, 32767] | _ => #[], ord := fun i => match i with | 3 => [0, 2, 3, 4, 5, 7, 8, 9, 10, 1, 6, 11, 12, 13, 14, 15] | _ => [], keep := fun i => match i with | 2 => [0, 1, 5] | _ => [] }
theorem carrackref20_Net_Send.eq (t0 : Value) (t1 : Value) (h0 : PH) (R : Value → PH → Prop) : codeH PG carrackref20_Net_Send.ann (bodyOf Try.f24) (endH PG Try.f24 R) (fun t => (#[t0, t1] : Array Value).getD t undef) h0 = carrackref20_Net_Send t0 t1 h0 R := by kernel_rfl
theorem carrackref20_Net_Send.call {t0 : Value} {t1 : Value} {h0 : PH} {R : Value → PH → Prop} (H : carrackref20_Net_Send t0 t1 h0 R) : CallsH PG id_carrackref20_Net_Send #[t0, t1] h0 R :=
  callsH_by carrackref20_Net_Send.ann mix Try.func24 (by kernel_rfl) (by kernel_rfl) (by kernel_rfl) (by simp [Try.ntmps24]) (carrackref20_Net_Send.eq t0 t1 h0 R) H

def carrackref20_Net_Take (t0 : Value) (t1 : Value) (h0 : PH) (R : Value → PH → Prop) : Prop :=
 ∀ r1, h0 r1 = none → bindH (PH.set h0 r1 (.cells (zcells PG T_api_Message) T_api_Message)) fun h2 =>
 popO (SemP PG (binOp BinOp.lss T_int t1 (Value.int IntKind.i64 0))) fun v3 =>
 gopV (yV v3) false (fun k6 => k6 t1 h2) h2 fun v4 h5 =>
 gopV (yV v3) false (fun k9 => k9 t0 h5) h5 fun v7 h8 =>
 gopV (yV v3) false (fun k12 => popO (SemP PG (nilS v7)) fun v13 => k12 v13 h8) h8 fun v10 h11 =>
 gopV (yV v3) false (fun k16 => popO (SemP PG (Instr.fieldAt T_carrackref20_Net v10 0)) fun v17 => k16 v17 h11) h11 fun v14 h15 =>
 gopV (yV v3) false (fun k20 => popO (SemE PG h15 (Instr.loadAt T_sl_api_Message v14)) fun v21 => k20 v21 h15) h15 fun v18 h19 =>
 gopV (yV v3) false (fun k24 => popO (SemP PG (Builtin.len_ #[T_sl_api_Message] T_int #[v18])) fun v25 => k24 v25 h19) h19 fun v22 h23 =>
 gopV (yV v3) false (fun k28 => popO (SemP PG (binOp BinOp.geq T_int v4 v22)) fun v29 => k28 v29 h23) h23 fun v26 h27 =>
 popO (pickV v3 (Value.bool true) v26) fun v30 =>
 condV v30
 (popO (SemP PG (Instr.build T_api_Message #[])) fun v31 =>
 SemH PG (storeS T_api_Message (Value.pointer (some ⟨r1, 0, none⟩)) v31) h27 fun v32 h33 =>
 popO (SemE PG h33 (Instr.loadAt T_api_Message (Value.pointer (some ⟨r1, 0, none⟩)))) fun v34 =>
 R (Value.tuple #[v34, (Value.int IntKind.i64 3)]) h33)
 (popO (SemP PG (nilS t0)) fun v35 =>
 popO (SemP PG (Instr.fieldAt T_carrackref20_Net v35 0)) fun v36 =>
 popO (SemE PG h27 (Instr.loadAt T_sl_api_Message v36)) fun v37 =>
 popO (SemP PG (Instr.indexAt T_sl_api_Message v37 t1)) fun v38 =>
 popO (SemE PG h27 (Instr.loadAt T_api_Message v38)) fun v39 =>
 ∀ r40, h27 r40 = none → bindH (PH.set h27 r40 (.cells (zcells PG T_api_Message) T_api_Message)) fun h41 =>
 SemH PG (storeS T_api_Message (Value.pointer (some ⟨r40, 0, none⟩)) v39) h41 fun v42 h43 =>
 popO (SemP PG (nilS t0)) fun v44 =>
 popO (SemP PG (Instr.fieldAt T_carrackref20_Net v44 0)) fun v45 =>
 popO (SemE PG h43 (Instr.loadAt T_sl_api_Message v45)) fun v46 =>
 popO (SemP PG (Instr.sliceAt T_sl_api_Message v46 none (some t1) none)) fun v47 =>
 popO (SemP PG (nilS t0)) fun v48 =>
 popO (SemP PG (Instr.fieldAt T_carrackref20_Net v48 0)) fun v49 =>
 popO (SemE PG h43 (Instr.loadAt T_sl_api_Message v49)) fun v50 =>
 popO (SemP PG (binOp BinOp.add T_int t1 (Value.int IntKind.i64 1))) fun v51 =>
 popO (SemP PG (Instr.sliceAt T_sl_api_Message v50 (some v51) none none)) fun v52 =>
 popO (SemA PG (Instr.buildSlice T_sl_api_Message 0 #[])) fun x54 => ∀ r53, h43 r53 = none → popO (SemP PG (x54.2 r53)) fun v55 => bindH (PH.set h43 r53 x54.1) fun h56 =>
 SemH PG (Builtin.append_ #[T_sl_api_Message, T_sl_api_Message] T_sl_api_Message #[v55, v47]) h56 fun v57 h58 =>
 SemE PG h58 (Instr.loadAt T_sl_api_Message v49) = some v50 ∧ (SemH PG (Builtin.append_ #[T_sl_api_Message, T_sl_api_Message] T_sl_api_Message #[v57, v52]) h58 fun v59 h60 =>
 (popO (SemP PG (nilS t0)) fun v61 =>
 popO (SemP PG (Instr.fieldAt T_carrackref20_Net v61 0)) fun v62 =>
 SemH PG (storeS T_sl_api_Message v62 v59) h60 fun v63 h64 =>
 (popO (SemE PG h64 (Instr.loadAt T_api_Message (Value.pointer (some ⟨r40, 0, none⟩)))) fun v65 =>
 SemH PG (storeS T_api_Message (Value.pointer (some ⟨r1, 0, none⟩)) v65) h64 fun v66 h67 =>
 popO (SemE PG h67 (Instr.loadAt T_api_Message (Value.pointer (some ⟨r1, 0, none⟩)))) fun v68 =>
 R (Value.tuple #[v68, (Value.int IntKind.i64 0)]) h67))))
def carrackref20_Net_Take.ann : Ann := { b := fun i => match i with | 4 => #[0, 0, 0, 4, 12, 28, 0, 124, 254, 0, 512, 1536, 3584, 0, 8192, 32256, 65534, 131071, 262143, 524287] | _ => #[], ord := fun i => match i with | 4 => [0, 2, 3, 4, 5, 6, 7, 9, 10, 11, 12, 13, 14, 15, 1, 8, 16, 17, 18, 19] | _ => [], keep := fun i => match i with  | _ => [] }
theorem carrackref20_Net_Take.eq (t0 : Value) (t1 : Value) (h0 : PH) (R : Value → PH → Prop) : codeH PG carrackref20_Net_Take.ann (bodyOf Try.f25) (endH PG Try.f25 R) (fun t => (#[t0, t1] : Array Value).getD t undef) h0 = carrackref20_Net_Take t0 t1 h0 R := by kernel_rfl
theorem carrackref20_Net_Take.call {t0 : Value} {t1 : Value} {h0 : PH} {R : Value → PH → Prop} (H : carrackref20_Net_Take t0 t1 h0 R) : CallsH PG id_carrackref20_Net_Take #[t0, t1] h0 R :=
  callsH_by carrackref20_Net_Take.ann mix Try.func25 (by kernel_rfl) (by kernel_rfl) (by kernel_rfl) (by simp [Try.ntmps25]) (carrackref20_Net_Take.eq t0 t1 h0 R) H

def carrackref20_Net_Twice (t0 : Value) (t1 : Value) (h0 : PH) (R : Value → PH → Prop) : Prop :=
 popO (SemP PG (binOp BinOp.lss T_int t1 (Value.int IntKind.i64 0))) fun v1 =>
 gopV (yV v1) false (fun k4 => k4 t1 h0) h0 fun v2 h3 =>
 gopV (yV v1) false (fun k7 => k7 t0 h3) h3 fun v5 h6 =>
 gopV (yV v1) false (fun k10 => popO (SemP PG (nilS v5)) fun v11 => k10 v11 h6) h6 fun v8 h9 =>
 gopV (yV v1) false (fun k14 => popO (SemP PG (Instr.fieldAt T_carrackref20_Net v8 0)) fun v15 => k14 v15 h9) h9 fun v12 h13 =>
 gopV (yV v1) false (fun k18 => popO (SemE PG h13 (Instr.loadAt T_sl_api_Message v12)) fun v19 => k18 v19 h13) h13 fun v16 h17 =>
 gopV (yV v1) false (fun k22 => popO (SemP PG (Builtin.len_ #[T_sl_api_Message] T_int #[v16])) fun v23 => k22 v23 h17) h17 fun v20 h21 =>
 gopV (yV v1) false (fun k26 => popO (SemP PG (binOp BinOp.geq T_int v2 v20)) fun v27 => k26 v27 h21) h21 fun v24 h25 =>
 popO (pickV v1 (Value.bool true) v24) fun v28 =>
 condV v28
 (R (Value.int IntKind.i64 3) h25)
 (popO (SemP PG (nilS t0)) fun v29 =>
 popO (SemP PG (Instr.fieldAt T_carrackref20_Net v29 0)) fun v30 =>
 popO (SemE PG h25 (Instr.loadAt T_sl_api_Message v30)) fun v31 =>
 popO (SemP PG (binOp BinOp.add T_int t1 (Value.int IntKind.i64 1))) fun v32 =>
 popO (SemP PG (Instr.sliceAt T_sl_api_Message v31 (some t1) (some v32) none)) fun v33 =>
 CallsH PG id_carrackref20_Net_Send #[t0, v33] h25 fun v34 h35 =>
 popO (SemE PG h35 (binS BinOp.eql T_int (.tmp 25) (.const (Value.int IntKind.i64 0)) v34 (Value.int IntKind.i64 0))) fun v36 =>
 condV v36
 (R (Value.int IntKind.i64 2) h35)
 (R (Value.int IntKind.i64 0) h35))
def carrackref20_Net_Twice.ann : Ann := { b := fun i => match i with  | _ => #[], ord := fun i => match i with  | _ => [], keep := fun i => match i with  | _ => [] }
theorem carrackref20_Net_Twice.eq (t0 : Value) (t1 : Value) (h0 : PH) (R : Value → PH → Prop) : codeH PG carrackref20_Net_Twice.ann (bodyOf Try.f26) (endH PG Try.f26 R) (fun t => (#[t0, t1] : Array Value).getD t undef) h0 = carrackref20_Net_Twice t0 t1 h0 R := by kernel_rfl
theorem carrackref20_Net_Twice.call {t0 : Value} {t1 : Value} {h0 : PH} {R : Value → PH → Prop} (H : carrackref20_Net_Twice t0 t1 h0 R) : CallsH PG id_carrackref20_Net_Twice #[t0, t1] h0 R :=
  callsH_by carrackref20_Net_Twice.ann mix Try.func26 (by kernel_rfl) (by kernel_rfl) (by kernel_rfl) (by simp [Try.ntmps26]) (carrackref20_Net_Twice.eq t0 t1 h0 R) H

def carrackref20_Net_Move (t0 : Value) (t1 : Value) (t2 : Value) (h0 : PH) (R : Value → PH → Prop) : Prop :=
 popO (SemP PG (binOp BinOp.lss T_int t1 (Value.int IntKind.i64 0))) fun v1 =>
 gopV (yV v1) false (fun k4 => k4 t1 h0) h0 fun v2 h3 =>
 gopV (yV v1) false (fun k7 => k7 t0 h3) h3 fun v5 h6 =>
 gopV (yV v1) false (fun k10 => popO (SemP PG (nilS v5)) fun v11 => k10 v11 h6) h6 fun v8 h9 =>
 gopV (yV v1) false (fun k14 => popO (SemP PG (Instr.fieldAt T_carrackref20_Net v8 0)) fun v15 => k14 v15 h9) h9 fun v12 h13 =>
 gopV (yV v1) false (fun k18 => popO (SemE PG h13 (Instr.loadAt T_sl_api_Message v12)) fun v19 => k18 v19 h13) h13 fun v16 h17 =>
 gopV (yV v1) false (fun k22 => popO (SemP PG (Builtin.len_ #[T_sl_api_Message] T_int #[v16])) fun v23 => k22 v23 h17) h17 fun v20 h21 =>
 gopV (yV v1) false (fun k26 => popO (SemP PG (binOp BinOp.geq T_int v2 v20)) fun v27 => k26 v27 h21) h21 fun v24 h25 =>
 popO (pickV v1 (Value.bool true) v24) fun v28 =>
 gopV (yV v28) false (fun k31 => k31 t2 h25) h25 fun v29 h30 =>
 gopV (yV v28) false (fun k34 => popO (SemP PG (binOp BinOp.lss T_int v29 (Value.int IntKind.i64 0))) fun v35 => k34 v35 h30) h30 fun v32 h33 =>
 popO (pickV v28 (Value.bool true) v32) fun v36 =>
 gopV (yV v36) false (fun k39 => k39 t2 h33) h33 fun v37 h38 =>
 gopV (yV v36) false (fun k42 => k42 t0 h38) h38 fun v40 h41 =>
 gopV (yV v36) false (fun k45 => popO (SemP PG (nilS v40)) fun v46 => k45 v46 h41) h41 fun v43 h44 =>
 gopV (yV v36) false (fun k49 => popO (SemP PG (Instr.fieldAt T_carrackref20_Net v43 0)) fun v50 => k49 v50 h44) h44 fun v47 h48 =>
 gopV (yV v36) false (fun k53 => popO (SemE PG h48 (Instr.loadAt T_sl_api_Message v47)) fun v54 => k53 v54 h48) h48 fun v51 h52 =>
 gopV (yV v36) false (fun k57 => popO (SemP PG (Builtin.len_ #[T_sl_api_Message] T_int #[v51])) fun v58 => k57 v58 h52) h52 fun v55 h56 =>
 gopV (yV v36) false (fun k61 => popO (SemP PG (binOp BinOp.geq T_int v37 v55)) fun v62 => k61 v62 h56) h56 fun v59 h60 =>
 popO (pickV v36 (Value.bool true) v59) fun v63 =>
 condV v63
 (R (Value.int IntKind.i64 3) h60)
 (CallsH PG id_carrackref20_Net_Take #[t0, t1] h60 fun v64 h65 =>
 popO (SemP PG (Instr.extract v64 0)) fun v66 =>
 popO (SemP PG (Instr.extract v64 1)) fun v67 =>
 ∀ r68, h65 r68 = none → bindH (PH.set h65 r68 (.cells (zcells PG T_api_Message) T_api_Message)) fun h69 =>
 SemH PG (storeS T_api_Message (Value.pointer (some ⟨r68, 0, none⟩)) v66) h69 fun v70 h71 =>
 popO (SemP PG (nilS t0)) fun v72 =>
 popO (SemP PG (Instr.fieldAt T_carrackref20_Net v72 0)) fun v73 =>
 popO (SemE PG h71 (Instr.loadAt T_sl_api_Message v73)) fun v74 =>
 popO (SemP PG (Instr.sliceAt T_sl_api_Message v74 none (some t2) none)) fun v75 =>
 popO (SemE PG h71 (Instr.loadAt T_api_Message (Value.pointer (some ⟨r68, 0, none⟩)))) fun v76 =>
 popO (SemP PG (nilS t0)) fun v77 =>
 popO (SemP PG (Instr.fieldAt T_carrackref20_Net v77 0)) fun v78 =>
 popO (SemE PG h71 (Instr.loadAt T_sl_api_Message v78)) fun v79 =>
 popO (SemP PG (Instr.sliceAt T_sl_api_Message v79 (some t2) none none)) fun v80 =>
 popO (SemA PG (Instr.buildSlice T_sl_api_Message 0 #[])) fun x82 => ∀ r81, h71 r81 = none → popO (SemP PG (x82.2 r81)) fun v83 => bindH (PH.set h71 r81 x82.1) fun h84 =>
 SemH PG (Builtin.append_ #[T_sl_api_Message, T_sl_api_Message] T_sl_api_Message #[v83, v75]) h84 fun v85 h86 =>
 SemE PG h86 (Instr.loadAt T_sl_api_Message v78) = some v79 ∧ SemE PG h86 (Instr.loadAt T_api_Message (Value.pointer (some ⟨r68, 0, none⟩))) = some v76 ∧ (popO (SemA PG (Instr.buildSlice T_sl_api_Message 1 #[(0, v76)])) fun x88 => ∀ r87, h86 r87 = none → popO (SemP PG (x88.2 r87)) fun v89 => bindH (PH.set h86 r87 x88.1) fun h90 =>
 SemH PG (Builtin.append_ #[T_sl_api_Message, T_sl_api_Message] T_sl_api_Message #[v85, v89]) h90 fun v91 h92 =>
 SemE PG h92 (Instr.loadAt T_sl_api_Message v78) = some v79 ∧ (SemH PG (Builtin.append_ #[T_sl_api_Message, T_sl_api_Message] T_sl_api_Message #[v91, v80]) h92 fun v93 h94 =>
 (popO (SemP PG (nilS t0)) fun v95 =>
 popO (SemP PG (Instr.fieldAt T_carrackref20_Net v95 0)) fun v96 =>
 SemH PG (storeS T_sl_api_Message v96 v93) h94 fun v97 h98 =>
 (R (Value.int IntKind.i64 0) h98)))))
def carrackref20_Net_Move.ann : Ann := { b := fun i => match i with | 4 => #[0, 0, 0, 4, 12, 28, 0, 124, 254, 0, 512, 2046, 0, 4096, 12288, 28672, 0, 126976, 262142, 524287, 1048575, 2097151] | _ => #[], ord := fun i => match i with | 4 => [0, 2, 3, 4, 5, 6, 7, 9, 12, 13, 14, 15, 16, 17, 1, 8, 10, 11, 18, 19, 20, 21] | _ => [], keep := fun i => match i with  | _ => [] }
theorem carrackref20_Net_Move.eq (t0 : Value) (t1 : Value) (t2 : Value) (h0 : PH) (R : Value → PH → Prop) : codeH PG carrackref20_Net_Move.ann (bodyOf Try.f27) (endH PG Try.f27 R) (fun t => (#[t0, t1, t2] : Array Value).getD t undef) h0 = carrackref20_Net_Move t0 t1 t2 h0 R := by kernel_rfl
theorem carrackref20_Net_Move.call {t0 : Value} {t1 : Value} {t2 : Value} {h0 : PH} {R : Value → PH → Prop} (H : carrackref20_Net_Move t0 t1 t2 h0 R) : CallsH PG id_carrackref20_Net_Move #[t0, t1, t2] h0 R :=
  callsH_by carrackref20_Net_Move.ann mix Try.func27 (by kernel_rfl) (by kernel_rfl) (by kernel_rfl) (by simp [Try.ntmps27]) (carrackref20_Net_Move.eq t0 t1 t2 h0 R) H

def net_Net_Len (t0 : Value) (h0 : PH) (R : Value → PH → Prop) : Prop :=
 popO (SemP PG (nilS t0)) fun v1 =>
 popO (SemP PG (Instr.fieldAt T_net_Net v1 0)) fun v2 =>
 popO (SemE PG h0 (Instr.loadAt T_sl_api_Message v2)) fun v3 =>
 popO (SemP PG (Builtin.len_ #[T_sl_api_Message] T_int #[v3])) fun v4 =>
 R v4 h0
def net_Net_Len.ann : Ann := { b := fun i => match i with  | _ => #[], ord := fun i => match i with  | _ => [], keep := fun i => match i with  | _ => [] }
theorem net_Net_Len.eq (t0 : Value) (h0 : PH) (R : Value → PH → Prop) : codeH PG net_Net_Len.ann (bodyOf Try.f28) (endH PG Try.f28 R) (fun t => (#[t0] : Array Value).getD t undef) h0 = net_Net_Len t0 h0 R := by kernel_rfl
theorem net_Net_Len.call {t0 : Value} {h0 : PH} {R : Value → PH → Prop} (H : net_Net_Len t0 h0 R) : CallsH PG id_net_Net_Len #[t0] h0 R :=
  callsH_by net_Net_Len.ann mix Try.func28 (by kernel_rfl) (by kernel_rfl) (by kernel_rfl) (by simp [Try.ntmps28]) (net_Net_Len.eq t0 h0 R) H

def carracklaw20_NetOrder_b128 (R : Value → PH → Prop) (n127 : List Value → PH → Prop) (t0 : Value) (t7 : Value) (t8 : Value) (t10 : Value) (h0 : PH) : Prop :=
 popO (SemP PG (binOp BinOp.lss T_int t10 t8)) fun v129 =>
 condV v129
 (CallsH PG id_net_Net_Take #[t7, (Value.int IntKind.i64 0)] h0 fun v130 h131 =>
 popO (SemP PG (Instr.extract v130 0)) fun v132 =>
 popO (SemP PG (Instr.extract v130 1)) fun v133 =>
 ∀ r134, h131 r134 = none → bindH (PH.set h131 r134 (.cells (zcells PG T_api_Message) T_api_Message)) fun h135 =>
 SemH PG (storeS T_api_Message (Value.pointer (some ⟨r134, 0, none⟩)) v132) h135 fun v136 h137 =>
 popO (SemE PG h137 (binS BinOp.neq T_api_Errno (.tmp 104) (.const (Value.int IntKind.i64 0)) v133 (Value.int IntKind.i64 0))) fun v138 =>
 gopV (yV v138) false (fun k141 => popO (SemE PG h137 (Instr.loadAt T_api_Message (Value.pointer (some ⟨r134, 0, none⟩)))) fun v142 => k141 v142 h137) h137 fun v139 h140 =>
 gopV (yV v138) false (fun k145 => k145 t0 h140) h140 fun v143 h144 =>
 gopV (yV v138) false (fun k148 => k148 t10 h144) h144 fun v146 h147 =>
 gopV (yV v138) false (fun k151 => popO (SemP PG (Instr.indexAt T_sl_api_Message v143 v146)) fun v152 => k151 v152 h147) h147 fun v149 h150 =>
 gopV (yV v138) false (fun k155 => popO (SemE PG h150 (Instr.loadAt T_api_Message v149)) fun v156 => k155 v156 h150) h150 fun v153 h154 =>
 gopV (yV v138) false (fun k159 => popO (SemE PG h154 (binS BinOp.neq T_api_Message (.tmp 107) (.tmp 111) v139 v153)) fun v160 => k159 v160 h154) h154 fun v157 h158 =>
 popO (pickV v138 (Value.bool true) v157) fun v161 =>
 condV v161
 (R (Value.bool false) h158)
 (popO (SemP PG (binOp BinOp.add T_int t10 (Value.int IntKind.i64 1))) fun v162 =>
 n127 [t0, t7, t8, v162] h158))
 (CallsH PG id_net_Net_Take #[t7, (Value.int IntKind.i64 0)] h0 fun v163 h164 =>
 popO (SemP PG (Instr.extract v163 0)) fun v165 =>
 popO (SemP PG (Instr.extract v163 1)) fun v166 =>
 ∀ r167, h164 r167 = none → bindH (PH.set h164 r167 (.cells (zcells PG T_api_Message) T_api_Message)) fun h168 =>
 SemH PG (storeS T_api_Message (Value.pointer (some ⟨r167, 0, none⟩)) v165) h168 fun v169 h170 =>
 popO (SemE PG h170 (binS BinOp.eql T_api_Errno (.tmp 119) (.const (Value.int IntKind.i64 3)) v166 (Value.int IntKind.i64 3))) fun v171 =>
 gopV (yV v171) true (fun k174 => k174 t7 h170) h170 fun v172 h173 =>
 gopV (yV v171) true (fun k177 => CallsH PG id_net_Net_Len #[v172] h173 fun v178 h179 => k177 v178 h179) h173 fun v175 h176 =>
 gopV (yV v171) true (fun k182 => popO (SemE PG h176 (binS BinOp.eql T_int (.tmp 123) (.const (Value.int IntKind.i64 0)) v175 (Value.int IntKind.i64 0))) fun v183 => k182 v183 h176) h176 fun v180 h181 =>
 popO (pickV v171 v180 (Value.bool false)) fun v184 =>
 R v184 h181)
def carracklaw20_NetOrder_k126 (R : Value → PH → Prop) (t0 : Value) (t7 : Value) (t8 : Value) (h0 : PH) : Prop :=
 LoopL [0, 7, 8, 10] (fun n127 ρ h => carracklaw20_NetOrder_b128 R n127 (ρ 0) (ρ 7) (ρ 8) (ρ 10) h) [t0, t7, t8, (Value.int IntKind.i64 0)] h0
def carracklaw20_NetOrder (t0 : Value) (t1 : Value) (t2 : Value) (h0 : PH) (R : Value → PH → Prop) : Prop :=
 CallsH PG id_carracklaw20_awake #[] h0 fun v1 h2 =>
 popO (SemP PG (Op.unary UnOp.not v1)) fun v3 =>
 condV v3
 (R (Value.bool false) h2)
 (popO (SemP PG (Builtin.len_ #[T_sl_api_Message] T_int #[t0])) fun v4 =>
 popO (SemP PG (binOp BinOp.gtr T_int v4 (Value.int IntKind.i64 400))) fun v5 =>
 condV v5
 (R (Value.bool true) h2)
 (CallsH PG id_net_New #[] h2 fun v6 h7 =>
 popO (SemE PG h7 (binS BinOp.eql T_p_net_Net (.tmp 21) (.const (Value.pointer none)) v6 (Value.pointer none))) fun v8 =>
 condV v8
 (R (Value.bool false) h7)
 (CallsH PG id_net_Net_Send #[v6, t0] h7 fun v9 h10 =>
 popO (SemP PG (Builtin.len_ #[T_sl_api_Message] T_int #[t0])) fun v11 =>
 popO (SemP PG (Builtin.min_ #[T_int, T_int] T_int #[v11, (Value.int IntKind.i64 256)])) fun v12 =>
 popO (SemE PG h10 (binS BinOp.neq T_int (.tmp 26) (.tmp 29) v9 v12)) fun v13 =>
 gopV (yV v13) false (fun k16 => k16 v6 h10) h10 fun v14 h15 =>
 gopV (yV v13) false (fun k19 => CallsH PG id_net_Net_Len #[v14] h15 fun v20 h21 => k19 v20 h21) h15 fun v17 h18 =>
 gopV (yV v13) false (fun k24 => k24 v9 h18) h18 fun v22 h23 =>
 gopV (yV v13) false (fun k27 => popO (SemE PG h23 (binS BinOp.neq T_int (.tmp 33) (.tmp 34) v17 v22)) fun v28 => k27 v28 h23) h23 fun v25 h26 =>
 popO (pickV v13 (Value.bool true) v25) fun v29 =>
 gopV (yV v29) false (fun k32 => k32 v9 h26) h26 fun v30 h31 =>
 gopV (yV v29) false (fun k35 => k35 t0 h31) h31 fun v33 h34 =>
 gopV (yV v29) false (fun k38 => popO (SemP PG (Builtin.len_ #[T_sl_api_Message] T_int #[v33])) fun v39 => k38 v39 h34) h34 fun v36 h37 =>
 gopV (yV v29) false (fun k42 => popO (SemP PG (binOp BinOp.lss T_int v30 v36)) fun v43 => k42 v43 h37) h37 fun v40 h41 =>
 gopV (yV v29) false (fun k46 => k46 v40 h41) h41 fun v44 h45 =>
 gopV (yV v44) true (fun k49 => k49 v6 h45) h45 fun v47 h48 =>
 gopV (yV v44) true (fun k52 => k52 t0 h48) h48 fun v50 h51 =>
 gopV (yV v44) true (fun k55 => CallsH PG id_net_Net_Send #[v47, v50] h51 fun v56 h57 => k55 v56 h57) h51 fun v53 h54 =>
 gopV (yV v44) true (fun k60 => popO (SemE PG h54 (binS BinOp.neq T_int (.tmp 45) (.const (Value.int IntKind.i64 0)) v53 (Value.int IntKind.i64 0))) fun v61 => k60 v61 h54) h54 fun v58 h59 =>
 gopV (yV v29) false (fun k64 => popO (pickV v44 v58 (Value.bool false)) fun v65 => k64 v65 h59) h59 fun v62 h63 =>
 popO (pickV v29 (Value.bool true) v62) fun v66 =>
 condV v66
 (R (Value.bool false) h63)
 (CallsH PG id_net_Net_Move #[v6, t1, t2] h63 fun v67 h68 =>
 popO (SemE PG h68 (binS BinOp.eql T_api_Errno (.tmp 52) (.const (Value.int IntKind.i64 0)) v67 (Value.int IntKind.i64 0))) fun v69 =>
 condV v69
 (CallsH PG id_net_Net_List #[v6] h68 fun v70 h71 =>
 popO (SemP PG (Builtin.len_ #[T_sl_api_Message] T_int #[v70])) fun v72 =>
 popO (SemE PG h71 (binS BinOp.neq T_int (.tmp 57) (.tmp 58) v72 v9)) fun v73 =>
 gopV (yV v73) false (fun k76 => k76 v70 h71) h71 fun v74 h75 =>
 gopV (yV v73) false (fun k79 => k79 t2 h75) h75 fun v77 h78 =>
 gopV (yV v73) false (fun k82 => popO (SemP PG (Instr.indexAt T_sl_api_Message v74 v77)) fun v83 => k82 v83 h78) h78 fun v80 h81 =>
 gopV (yV v73) false (fun k86 => popO (SemE PG h81 (Instr.loadAt T_api_Message v80)) fun v87 => k86 v87 h81) h81 fun v84 h85 =>
 gopV (yV v73) false (fun k90 => k90 t0 h85) h85 fun v88 h89 =>
 gopV (yV v73) false (fun k93 => k93 t1 h89) h89 fun v91 h92 =>
 gopV (yV v73) false (fun k96 => popO (SemP PG (Instr.indexAt T_sl_api_Message v88 v91)) fun v97 => k96 v97 h92) h92 fun v94 h95 =>
 gopV (yV v73) false (fun k100 => popO (SemE PG h95 (Instr.loadAt T_api_Message v94)) fun v101 => k100 v101 h95) h95 fun v98 h99 =>
 gopV (yV v73) false (fun k104 => popO (SemE PG h99 (binS BinOp.neq T_api_Message (.tmp 64) (.tmp 68) v84 v98)) fun v105 => k104 v105 h99) h99 fun v102 h103 =>
 popO (pickV v73 (Value.bool true) v102) fun v106 =>
 gopV (yV v106) false (fun k109 => k109 v6 h103) h103 fun v107 h108 =>
 gopV (yV v106) false (fun k112 => k112 t2 h108) h108 fun v110 h111 =>
 gopV (yV v106) false (fun k115 => k115 t1 h111) h111 fun v113 h114 =>
 gopV (yV v106) false (fun k118 => CallsH PG id_net_Net_Move #[v107, v110, v113] h114 fun v119 h120 => k118 v119 h120) h114 fun v116 h117 =>
 (gopV (yV v106) false (fun k123 => popO (SemE PG h117 (binS BinOp.neq T_api_Errno (.tmp 75) (.const (Value.int IntKind.i64 0)) v116 (Value.int IntKind.i64 0))) fun v124 => k123 v124 h117) h117 fun v121 h122 =>
 popO (pickV v106 (Value.bool true) v121) fun v125 =>
 condV v125
 (R (Value.bool false) h122)
 (carracklaw20_NetOrder_k126 R t0 v6 v9 h122)))
 (popO (SemP PG (binOp BinOp.geq T_int t1 (Value.int IntKind.i64 0))) fun v185 =>
 gopV (yV v185) true (fun k188 => k188 t1 h68) h68 fun v186 h187 =>
 gopV (yV v185) true (fun k191 => k191 v9 h187) h187 fun v189 h190 =>
 gopV (yV v185) true (fun k194 => popO (SemP PG (binOp BinOp.lss T_int v186 v189)) fun v195 => k194 v195 h190) h190 fun v192 h193 =>
 popO (pickV v185 v192 (Value.bool false)) fun v196 =>
 gopV (yV v196) true (fun k199 => k199 t2 h193) h193 fun v197 h198 =>
 gopV (yV v196) true (fun k202 => popO (SemP PG (binOp BinOp.geq T_int v197 (Value.int IntKind.i64 0))) fun v203 => k202 v203 h198) h198 fun v200 h201 =>
 popO (pickV v196 v200 (Value.bool false)) fun v204 =>
 gopV (yV v204) true (fun k207 => k207 t2 h201) h201 fun v205 h206 =>
 gopV (yV v204) true (fun k210 => k210 v9 h206) h206 fun v208 h209 =>
 gopV (yV v204) true (fun k213 => popO (SemP PG (binOp BinOp.lss T_int v205 v208)) fun v214 => k213 v214 h209) h209 fun v211 h212 =>
 popO (pickV v204 v211 (Value.bool false)) fun v215 =>
 condV v215
 (R (Value.bool false) h212)
 (carracklaw20_NetOrder_k126 R t0 v6 v9 h212))))))
def carracklaw20_NetOrder.ann : Ann := { b := fun i => match i with | 13 => #[0, 1, 0, 7, 15, 31, 31, 127, 255, 31, 31, 1567, 3615, 8191, 16383, 32767, 65535, 65535, 65535, 524287, 1048575, 2097151] | 21 => #[0, 1, 3, 7, 7, 7, 55, 119, 255, 511] | _ => #[], ord := fun i => match i with | 13 => [0, 1, 2, 3, 4, 5, 6, 7, 8, 9, 10, 11, 12, 13, 14, 15, 16, 17, 18, 19, 20, 21] | 21 => [0, 1, 2, 3, 4, 5, 6, 7, 8, 9] | _ => [], keep := fun i => match i with | 18 => [0, 7, 8, 10] | _ => [] }
theorem carracklaw20_NetOrder.eq (t0 : Value) (t1 : Value) (t2 : Value) (h0 : PH) (R : Value → PH → Prop) : codeH PG carracklaw20_NetOrder.ann (bodyOf Try.f7) (endH PG Try.f7 R) (fun t => (#[t0, t1, t2] : Array Value).getD t undef) h0 = carracklaw20_NetOrder t0 t1 t2 h0 R := by kernel_rfl
theorem carracklaw20_NetOrder.call {t0 : Value} {t1 : Value} {t2 : Value} {h0 : PH} {R : Value → PH → Prop} (H : carracklaw20_NetOrder t0 t1 t2 h0 R) : CallsH PG id_carracklaw20_NetOrder #[t0, t1, t2] h0 R :=
  callsH_by carracklaw20_NetOrder.ann mix Try.func7 (by kernel_rfl) (by kernel_rfl) (by kernel_rfl) (by simp [Try.ntmps7]) (carracklaw20_NetOrder.eq t0 t1 t2 h0 R) H

def carracklaw12_ClientPlays_b13 (R : Value → PH → Prop) (n12 : List Value → PH → Prop) (t0 : Value) (t1 : Value) (t5 : Value) (t6 : Value) (t7 : Value) (h0 : PH) : Prop :=
 popO (SemP PG (Builtin.len_ #[T_sl_carrackref12_Known] T_int #[t0])) fun v14 =>
 popO (SemP PG (binOp BinOp.lss T_int t7 v14)) fun v15 =>
 condV v15
 (popO (SemP PG (Instr.indexAt T_sl_carrackref12_Known t0 t7)) fun v16 =>
 popO (SemP PG (Instr.fieldAt T_carrackref12_Known v16 0)) fun v17 =>
 popO (SemE PG h0 (Instr.loadAt T_uint64 v17)) fun v18 =>
 popO (SemP PG (Instr.indexAt T_sl_carrackref12_Known t0 t7)) fun v19 =>
 popO (SemP PG (Instr.fieldAt T_carrackref12_Known v19 1)) fun v20 =>
 popO (SemE PG h0 (Instr.loadAt T_string v20)) fun v21 =>
 popO (SemP PG (Instr.indexAt T_sl_carrackref12_Known t0 t7)) fun v22 =>
 popO (SemP PG (Instr.fieldAt T_carrackref12_Known v22 0)) fun v23 =>
 popO (SemE PG h0 (Instr.loadAt T_uint64 v23)) fun v24 =>
 popO (SemP PG (Instr.indexAt T_sl_carrackref12_Known t0 t7)) fun v25 =>
 popO (SemP PG (Instr.fieldAt T_carrackref12_Known v25 1)) fun v26 =>
 popO (SemE PG h0 (Instr.loadAt T_string v26)) fun v27 =>
 CallsH PG id_client_Client_Set #[t5, v18, v21] h0 fun v28 h29 =>
 SemE PG h29 (Instr.loadAt T_string v26) = some v27 ∧ SemE PG h29 (Instr.loadAt T_uint64 v23) = some v24 ∧ (CallsH PG id_carrackref12_Client_Set #[t6, v24, v27] h29 fun v30 h31 =>
 (popO (SemE PG h31 (binS BinOp.neq T_int (.tmp 43) (.tmp 55) v28 v30)) fun v32 =>
 condV v32
 (R (Value.bool false) h31)
 (CallsH PG id_client_Client_Root #[t5, t1] h31 fun v33 h34 =>
 popO (SemP PG (Instr.extract v33 0)) fun v35 =>
 popO (SemP PG (Instr.extract v33 1)) fun v36 =>
 CallsH PG id_carrackref12_Client_Root #[t6, t1] h34 fun v37 h38 =>
 popO (SemP PG (Instr.extract v37 0)) fun v39 =>
 popO (SemP PG (Instr.extract v37 1)) fun v40 =>
 CallsH PG id_client_Client_From #[t5, t1] h38 fun v41 h42 =>
 popO (SemP PG (Instr.extract v41 0)) fun v43 =>
 popO (SemP PG (Instr.extract v41 1)) fun v44 =>
 CallsH PG id_carrackref12_Client_From #[t6, t1] h42 fun v45 h46 =>
 popO (SemP PG (Instr.extract v45 0)) fun v47 =>
 popO (SemP PG (Instr.extract v45 1)) fun v48 =>
 popO (SemE PG h46 (binS BinOp.neq T_string (.tmp 81) (.tmp 82) v35 v39)) fun v49 =>
 gopV (yV v49) false (fun k52 => k52 v36 h46) h46 fun v50 h51 =>
 gopV (yV v49) false (fun k55 => k55 v40 h51) h51 fun v53 h54 =>
 gopV (yV v49) false (fun k58 => popO (SemE PG h54 (binS BinOp.neq T_bool (.tmp 85) (.tmp 86) v50 v53)) fun v59 => k58 v59 h54) h54 fun v56 h57 =>
 popO (pickV v49 (Value.bool true) v56) fun v60 =>
 gopV (yV v60) false (fun k63 => k63 v43 h57) h57 fun v61 h62 =>
 gopV (yV v60) false (fun k66 => k66 v47 h62) h62 fun v64 h65 =>
 gopV (yV v60) false (fun k69 => popO (SemE PG h65 (binS BinOp.neq T_uint64 (.tmp 90) (.tmp 91) v61 v64)) fun v70 => k69 v70 h65) h65 fun v67 h68 =>
 popO (pickV v60 (Value.bool true) v67) fun v71 =>
 gopV (yV v71) false (fun k74 => k74 v44 h68) h68 fun v72 h73 =>
 gopV (yV v71) false (fun k77 => k77 v48 h73) h73 fun v75 h76 =>
 gopV (yV v71) false (fun k80 => popO (SemE PG h76 (binS BinOp.neq T_bool (.tmp 95) (.tmp 96) v72 v75)) fun v81 => k80 v81 h76) h76 fun v78 h79 =>
 popO (pickV v71 (Value.bool true) v78) fun v82 =>
 gopV (yV v82) false (fun k85 => k85 t5 h79) h79 fun v83 h84 =>
 gopV (yV v82) false (fun k88 => CallsH PG id_client_Client_Latest #[v83] h84 fun v89 h90 => k88 v89 h90) h84 fun v86 h87 =>
 gopV (yV v82) false (fun k93 => k93 t6 h87) h87 fun v91 h92 =>
 gopV (yV v82) false (fun k96 => CallsH PG id_carrackref12_Client_Latest #[v91] h92 fun v97 h98 => k96 v97 h98) h92 fun v94 h95 =>
 gopV (yV v82) false (fun k101 => popO (SemE PG h95 (binS BinOp.neq T_uint64 (.tmp 101) (.tmp 103) v86 v94)) fun v102 => k101 v102 h95) h95 fun v99 h100 =>
 popO (pickV v82 (Value.bool true) v99) fun v103 =>
 gopV (yV v103) false (fun k106 => k106 t5 h100) h100 fun v104 h105 =>
 gopV (yV v103) false (fun k109 => CallsH PG id_client_Client_Heights #[v104] h105 fun v110 h111 => k109 v110 h111) h105 fun v107 h108 =>
 gopV (yV v103) false (fun k114 => k114 t6 h108) h108 fun v112 h113 =>
 gopV (yV v103) false (fun k117 => CallsH PG id_carrackref12_Client_Heights #[v112] h113 fun v118 h119 => k117 v118 h119) h113 fun v115 h116 =>
 gopV (yV v103) false (fun k122 => CallsH PG id_carracklaw12_numbers #[v107, v115] h116 fun v123 h124 => k122 v123 h124) h116 fun v120 h121 =>
 gopV (yV v103) false (fun k127 => popO (SemP PG (Op.unary UnOp.not v120)) fun v128 => k127 v128 h121) h121 fun v125 h126 =>
 popO (pickV v103 (Value.bool true) v125) fun v129 =>
 condV v129
 (R (Value.bool false) h126)
 (popO (SemP PG (binOp BinOp.add T_int t7 (Value.int IntKind.i64 1))) fun v130 =>
 n12 [t0, t1, t5, t6, v130] h126)))))
 (R (Value.bool true) h0)
def carracklaw12_ClientPlays (t0 : Value) (t1 : Value) (h0 : PH) (R : Value → PH → Prop) : Prop :=
 CallsH PG id_carracklaw12_awake #[] h0 fun v1 h2 =>
 popO (SemP PG (Op.unary UnOp.not v1)) fun v3 =>
 condV v3
 (R (Value.bool false) h2)
 (popO (SemP PG (Builtin.len_ #[T_sl_carrackref12_Known] T_int #[t0])) fun v4 =>
 popO (SemP PG (binOp BinOp.gtr T_int v4 (Value.int IntKind.i64 100))) fun v5 =>
 condV v5
 (R (Value.bool true) h2)
 (CallsH PG id_client_New #[] h2 fun v6 h7 =>
 popO (SemP PG (Instr.build T_carrackref12_Client #[])) fun v8 =>
 ∀ r9, h7 r9 = none → bindH (PH.set h7 r9 (.cells (Value.cells v8) T_carrackref12_Client)) fun h10 =>
 popO (SemE PG h10 (binS BinOp.eql T_p_client_Client (.tmp 24) (.const (Value.pointer none)) v6 (Value.pointer none))) fun v11 =>
 condV v11
 (R (Value.bool false) h10)
 (LoopL [0, 1, 5, 6, 7] (fun n12 ρ h => carracklaw12_ClientPlays_b13 R n12 (ρ 0) (ρ 1) (ρ 5) (ρ 6) (ρ 7) h) [t0, t1, v6, (Value.pointer (some ⟨r9, 0, none⟩)), (Value.int IntKind.i64 0)] h10)))
def carracklaw12_ClientPlays.ann : Ann := { b := fun i => match i with | 11 => #[0, 0, 0, 6, 14, 30, 0, 0, 192, 448, 960, 2047, 0, 0, 0, 24576, 57344, 122880, 0, 0, 786432, 1835008, 3932160, 8388607, 16777215] | _ => #[], ord := fun i => match i with | 11 => [0, 1, 2, 3, 4, 5, 6, 7, 8, 9, 10, 12, 13, 14, 15, 16, 17, 18, 19, 20, 21, 22, 11, 23, 24] | _ => [], keep := fun i => match i with | 9 => [0, 1, 5, 6, 7] | _ => [] }
theorem carracklaw12_ClientPlays.eq (t0 : Value) (t1 : Value) (h0 : PH) (R : Value → PH → Prop) : codeH PG carracklaw12_ClientPlays.ann (bodyOf Try.f8) (endH PG Try.f8 R) (fun t => (#[t0, t1] : Array Value).getD t undef) h0 = carracklaw12_ClientPlays t0 t1 h0 R := by kernel_rfl
theorem carracklaw12_ClientPlays.call {t0 : Value} {t1 : Value} {h0 : PH} {R : Value → PH → Prop} (H : carracklaw12_ClientPlays t0 t1 h0 R) : CallsH PG id_carracklaw12_ClientPlays #[t0, t1] h0 R :=
  callsH_by carracklaw12_ClientPlays.ann mix Try.func8 (by kernel_rfl) (by kernel_rfl) (by kernel_rfl) (by simp [Try.ntmps8]) (carracklaw12_ClientPlays.eq t0 t1 h0 R) H

def carracklaw12_awake (h0 : PH) (R : Value → PH → Prop) : Prop :=
 CallsH PG id_client_New #[] h0 fun v1 h2 =>
 popO (SemE PG h2 (binS BinOp.eql T_p_client_Client (.tmp 8) (.const (Value.pointer none)) v1 (Value.pointer none))) fun v3 =>
 condV v3
 (R (Value.bool false) h2)
 (popO (SemA PG (Instr.makeSlice T_sl_uint8 (Value.int IntKind.i64 32) (Value.int IntKind.i64 32))) fun x5 => ∀ r4, h2 r4 = none → popO (SemP PG (x5.2 r4)) fun v6 => bindH (PH.set h2 r4 x5.1) fun h7 =>
 popO (SemE PG h7 (convert T_sl_uint8 T_string v6)) fun v8 =>
 CallsH PG id_client_Client_Set #[v1, (Value.int IntKind.u64 9), v8] h7 fun v9 h10 =>
 CallsH PG id_client_Client_Set #[v1, (Value.int IntKind.u64 5), v8] h10 fun v11 h12 =>
 CallsH PG id_client_Client_From #[v1, (Value.int IntKind.u64 6)] h12 fun v13 h14 =>
 popO (SemP PG (Instr.extract v13 0)) fun v15 =>
 popO (SemP PG (Instr.extract v13 1)) fun v16 =>
 popO (SemE PG h14 (binS BinOp.eql T_api_Errno (.tmp 23) (.const (Value.int IntKind.i64 0)) v9 (Value.int IntKind.i64 0))) fun v17 =>
 gopV (yV v17) true (fun k20 => k20 v11 h14) h14 fun v18 h19 =>
 gopV (yV v17) true (fun k23 => popO (SemE PG h19 (binS BinOp.eql T_api_Errno (.tmp 26) (.const (Value.int IntKind.i64 0)) v18 (Value.int IntKind.i64 0))) fun v24 => k23 v24 h19) h19 fun v21 h22 =>
 popO (pickV v17 v21 (Value.bool false)) fun v25 =>
 gopV (yV v25) true (fun k28 => k28 v15 h22) h22 fun v26 h27 =>
 gopV (yV v25) true (fun k31 => popO (SemE PG h27 (binS BinOp.eql T_uint64 (.tmp 30) (.const (Value.int IntKind.u64 9)) v26 (Value.int IntKind.u64 9))) fun v32 => k31 v32 h27) h27 fun v29 h30 =>
 popO (pickV v25 v29 (Value.bool false)) fun v33 =>
 gopV (yV v33) true (fun k36 => k36 v16 h30) h30 fun v34 h35 =>
 popO (pickV v33 v34 (Value.bool false)) fun v37 =>
 gopV (yV v37) true (fun k40 => k40 v1 h35) h35 fun v38 h39 =>
 gopV (yV v37) true (fun k43 => CallsH PG id_client_Client_Latest #[v38] h39 fun v44 h45 => k43 v44 h45) h39 fun v41 h42 =>
 gopV (yV v37) true (fun k48 => popO (SemE PG h42 (binS BinOp.eql T_uint64 (.tmp 38) (.const (Value.int IntKind.u64 9)) v41 (Value.int IntKind.u64 9))) fun v49 => k48 v49 h42) h42 fun v46 h47 =>
 popO (pickV v37 v46 (Value.bool false)) fun v50 =>
 R v50 h47)
def carracklaw12_awake.ann : Ann := { b := fun i => match i with  | _ => #[], ord := fun i => match i with  | _ => [], keep := fun i => match i with  | _ => [] }
theorem carracklaw12_awake.eq (h0 : PH) (R : Value → PH → Prop) : codeH PG carracklaw12_awake.ann (bodyOf Try.f29) (endH PG Try.f29 R) (fun t => (#[] : Array Value).getD t undef) h0 = carracklaw12_awake  h0 R := by kernel_rfl
theorem carracklaw12_awake.call {h0 : PH} {R : Value → PH → Prop} (H : carracklaw12_awake  h0 R) : CallsH PG id_carracklaw12_awake #[] h0 R :=
  callsH_by carracklaw12_awake.ann mix Try.func29 (by kernel_rfl) (by kernel_rfl) (by kernel_rfl) (by simp [Try.ntmps29]) (carracklaw12_awake.eq  h0 R) H

def client_New (h0 : PH) (R : Value → PH → Prop) : Prop :=
 popO (SemA PG (Instr.makeMap T_map_uint64_string none)) fun x2 => ∀ r1, h0 r1 = none → popO (SemP PG (x2.2 r1)) fun v3 => bindH (PH.set h0 r1 x2.1) fun h4 =>
 popO (SemP PG (Instr.build T_client_Client #[(0, v3)])) fun v5 =>
 ∀ r6, h4 r6 = none → bindH (PH.set h4 r6 (.cells (Value.cells v5) T_client_Client)) fun h7 =>
 R (Value.pointer (some ⟨r6, 0, none⟩)) h7
def client_New.ann : Ann := { b := fun i => match i with  | _ => #[], ord := fun i => match i with  | _ => [], keep := fun i => match i with  | _ => [] }
theorem client_New.eq (h0 : PH) (R : Value → PH → Prop) : codeH PG client_New.ann (bodyOf Try.f30) (endH PG Try.f30 R) (fun t => (#[] : Array Value).getD t undef) h0 = client_New  h0 R := by kernel_rfl
theorem client_New.call {h0 : PH} {R : Value → PH → Prop} (H : client_New  h0 R) : CallsH PG id_client_New #[] h0 R :=
  callsH_by client_New.ann mix Try.func30 (by kernel_rfl) (by kernel_rfl) (by kernel_rfl) (by simp [Try.ntmps30]) (client_New.eq  h0 R) H

def client_Client_Set (t0 : Value) (t1 : Value) (t2 : Value) (h0 : PH) (R : Value → PH → Prop) : Prop :=
 popO (SemP PG (Builtin.len_ #[T_string] T_int #[t2])) fun v1 =>
 popO (SemE PG h0 (binS BinOp.neq T_int (.tmp 11) (.const (Value.int IntKind.i64 32)) v1 (Value.int IntKind.i64 32))) fun v2 =>
 condV v2
 (R (Value.int IntKind.i64 1) h0)
 (popO (SemP PG (nilS t0)) fun v3 =>
 popO (SemP PG (Instr.fieldAt T_client_Client v3 0)) fun v4 =>
 popO (SemE PG h0 (Instr.loadAt T_map_uint64_string v4)) fun v5 =>
 popO (SemE PG h0 (Instr.lookup T_map_uint64_string v5 t1 true)) fun v6 =>
 popO (SemP PG (Instr.extract v6 0)) fun v7 =>
 popO (SemP PG (Instr.extract v6 1)) fun v8 =>
 condV v8
 (R (Value.int IntKind.i64 4) h0)
 (popO (SemP PG (nilS t0)) fun v9 =>
 popO (SemP PG (Instr.fieldAt T_client_Client v9 0)) fun v10 =>
 popO (SemE PG h0 (Instr.loadAt T_map_uint64_string v10)) fun v11 =>
 popO (SemE PG h0 (Builtin.len_ #[T_map_uint64_string] T_int #[v11])) fun v12 =>
 popO (SemP PG (binOp BinOp.geq T_int v12 (Value.int IntKind.i64 4096))) fun v13 =>
 condV v13
 (R (Value.int IntKind.i64 2) h0)
 (popO (SemP PG (nilS t0)) fun v14 =>
 popO (SemP PG (Instr.fieldAt T_client_Client v14 0)) fun v15 =>
 popO (SemE PG h0 (Instr.loadAt T_map_uint64_string v15)) fun v16 =>
 SemH PG (mapUpdS T_map_uint64_string v16 t1 t2) h0 fun v17 h18 =>
 CallsH PG id_client_Client_place #[t0, t1] h18 fun v19 h20 =>
 popO (SemP PG (nilS t0)) fun v21 =>
 popO (SemP PG (Instr.fieldAt T_client_Client v21 1)) fun v22 =>
 popO (SemE PG h20 (Instr.loadAt T_sl_uint64 v22)) fun v23 =>
 popO (SemP PG (Instr.sliceAt T_sl_uint64 v23 none (some v19) (some v19))) fun v24 =>
 popO (SemP PG (nilS t0)) fun v25 =>
 popO (SemP PG (Instr.fieldAt T_client_Client v25 1)) fun v26 =>
 popO (SemE PG h20 (Instr.loadAt T_sl_uint64 v26)) fun v27 =>
 popO (SemP PG (Instr.sliceAt T_sl_uint64 v27 (some v19) none none)) fun v28 =>
 popO (SemA PG (Instr.buildSlice T_sl_uint64 1 #[(0, t1)])) fun x30 => ∀ r29, h20 r29 = none → popO (SemP PG (x30.2 r29)) fun v31 => bindH (PH.set h20 r29 x30.1) fun h32 =>
 SemH PG (Builtin.append_ #[T_sl_uint64, T_sl_uint64] T_sl_uint64 #[v24, v31]) h32 fun v33 h34 =>
 SemE PG h34 (Instr.loadAt T_sl_uint64 v26) = some v27 ∧ (SemH PG (Builtin.append_ #[T_sl_uint64, T_sl_uint64] T_sl_uint64 #[v33, v28]) h34 fun v35 h36 =>
 (popO (SemP PG (nilS t0)) fun v37 =>
 popO (SemP PG (Instr.fieldAt T_client_Client v37 1)) fun v38 =>
 SemH PG (storeS T_sl_uint64 v38 v35) h36 fun v39 h40 =>
 (R (Value.int IntKind.i64 0) h40))))))
def client_Client_Set.ann : Ann := { b := fun i => match i with | 10 => #[0, 0, 2, 6, 14, 0, 0, 126, 0, 256, 1022, 0, 2048, 6144, 14336, 0, 63488, 131070, 262143, 524287, 1048575] | _ => #[], ord := fun i => match i with | 10 => [0, 1, 2, 3, 4, 5, 6, 7, 8, 11, 12, 13, 14, 15, 16, 9, 10, 17, 18, 19, 20] | _ => [], keep := fun i => match i with  | _ => [] }
theorem client_Client_Set.eq (t0 : Value) (t1 : Value) (t2 : Value) (h0 : PH) (R : Value → PH → Prop) : codeH PG client_Client_Set.ann (bodyOf Try.f31) (endH PG Try.f31 R) (fun t => (#[t0, t1, t2] : Array Value).getD t undef) h0 = client_Client_Set t0 t1 t2 h0 R := by kernel_rfl
theorem client_Client_Set.call {t0 : Value} {t1 : Value} {t2 : Value} {h0 : PH} {R : Value → PH → Prop} (H : client_Client_Set t0 t1 t2 h0 R) : CallsH PG id_client_Client_Set #[t0, t1, t2] h0 R :=
  callsH_by client_Client_Set.ann mix Try.func31 (by kernel_rfl) (by kernel_rfl) (by kernel_rfl) (by simp [Try.ntmps31]) (client_Client_Set.eq t0 t1 t2 h0 R) H

def client_Client_place (t0 : Value) (t1 : Value) (h0 : PH) (R : Value → PH → Prop) : Prop :=
 ∀ r1, h0 r1 = none → bindH (PH.set h0 r1 (.cells (Value.cells t0) T_p_client_Client)) fun h2 =>
 ∀ r3, h2 r3 = none → bindH (PH.set h2 r3 (.cells (Value.cells t1) T_uint64)) fun h4 =>
 popO (SemE PG h4 (Instr.loadAt T_p_client_Client (Value.pointer (some ⟨r1, 0, none⟩)))) fun v5 =>
 popO (SemP PG (nilS v5)) fun v6 =>
 popO (SemP PG (Instr.fieldAt T_client_Client v6 1)) fun v7 =>
 popO (SemE PG h4 (Instr.loadAt T_sl_uint64 v7)) fun v8 =>
 popO (SemP PG (Builtin.len_ #[T_sl_uint64] T_int #[v8])) fun v9 =>
 popO (SemP PG (Instr.makeFunc (Fn.func id_client_Client_place_1) #[] #[(Value.pointer (some ⟨r1, 0, none⟩)), (Value.pointer (some ⟨r3, 0, none⟩))])) fun v10 =>
 CallsH PG id_sort_Search #[v9, v10] h4 fun v11 h12 =>
 R v11 h12
def client_Client_place.ann : Ann := { b := fun i => match i with  | _ => #[], ord := fun i => match i with  | _ => [], keep := fun i => match i with  | _ => [] }
theorem client_Client_place.eq (t0 : Value) (t1 : Value) (h0 : PH) (R : Value → PH → Prop) : codeH PG client_Client_place.ann (bodyOf Try.f47) (endH PG Try.f47 R) (fun t => (#[t0, t1] : Array Value).getD t undef) h0 = client_Client_place t0 t1 h0 R := by kernel_rfl
theorem client_Client_place.call {t0 : Value} {t1 : Value} {h0 : PH} {R : Value → PH → Prop} (H : client_Client_place t0 t1 h0 R) : CallsH PG id_client_Client_place #[t0, t1] h0 R :=
  callsH_by client_Client_place.ann mix Try.func47 (by kernel_rfl) (by kernel_rfl) (by kernel_rfl) (by simp [Try.ntmps47]) (client_Client_place.eq t0 t1 h0 R) H

def sort_Search_k12 (R : Value → PH → Prop) (n1 : List Value → PH → Prop) (t1 : Value) (t5 : Value) (t6 : Value) (h0 : PH) : Prop :=
 n1 [t1, t5, t6] h0
def sort_Search_b2 (R : Value → PH → Prop) (n1 : List Value → PH → Prop) (t1 : Value) (t5 : Value) (t6 : Value) (h0 : PH) : Prop :=
 popO (SemP PG (binOp BinOp.lss T_int t5 t6)) fun v3 =>
 condV v3
 (popO (SemP PG (binOp BinOp.add T_int t5 t6)) fun v4 =>
 popO (SemP PG (convert T_int T_uint v4)) fun v5 =>
 popO (SemP PG (binOp BinOp.shr T_uint v5 (Value.int IntKind.u64 1))) fun v6 =>
 popO (SemP PG (convert T_uint T_int v6)) fun v7 =>
 callC PG t1 #[v7] h0 fun v8 h9 =>
 popO (SemP PG (Op.unary UnOp.not v8)) fun v10 =>
 condV v10
 (popO (SemP PG (binOp BinOp.add T_int v7 (Value.int IntKind.i64 1))) fun v11 =>
 sort_Search_k12 R n1 t1 v11 t6 h9)
 (sort_Search_k12 R n1 t1 t5 v7 h9))
 (R t5 h0)
def sort_Search (t0 : Value) (t1 : Value) (h0 : PH) (R : Value → PH → Prop) : Prop :=
 LoopL [1, 5, 6] (fun n1 ρ h => sort_Search_b2 R n1 (ρ 1) (ρ 5) (ρ 6) h) [t1, (Value.int IntKind.i64 0), t0] h0
def sort_Search.ann : Ann := { b := fun i => match i with  | _ => #[], ord := fun i => match i with  | _ => [], keep := fun i => match i with | 2 => [1, 5, 6] | _ => [] }
theorem sort_Search.eq (t0 : Value) (t1 : Value) (h0 : PH) (R : Value → PH → Prop) : codeH PG sort_Search.ann (bodyOf Try.f49) (endH PG Try.f49 R) (fun t => (#[t0, t1] : Array Value).getD t undef) h0 = sort_Search t0 t1 h0 R := by kernel_rfl
theorem sort_Search.call {t0 : Value} {t1 : Value} {h0 : PH} {R : Value → PH → Prop} (H : sort_Search t0 t1 h0 R) : CallsH PG id_sort_Search #[t0, t1] h0 R :=
  callsH_by sort_Search.ann mix Try.func49 (by kernel_rfl) (by kernel_rfl) (by kernel_rfl) (by simp [Try.ntmps49]) (sort_Search.eq t0 t1 h0 R) H

def client_Client_place_1 (t0 : Value) (t1 : Value) (t2 : Value) (h0 : PH) (R : Value → PH → Prop) : Prop :=
 popO (SemE PG h0 (Instr.loadAt T_p_client_Client t1)) fun v1 =>
 popO (SemP PG (nilS v1)) fun v2 =>
 popO (SemP PG (Instr.fieldAt T_client_Client v2 1)) fun v3 =>
 popO (SemE PG h0 (Instr.loadAt T_sl_uint64 v3)) fun v4 =>
 popO (SemP PG (Instr.indexAt T_sl_uint64 v4 t0)) fun v5 =>
 popO (SemE PG h0 (Instr.loadAt T_uint64 v5)) fun v6 =>
 popO (SemE PG h0 (Instr.loadAt T_uint64 t2)) fun v7 =>
 popO (SemP PG (binOp BinOp.geq T_uint64 v6 v7)) fun v8 =>
 R v8 h0
def client_Client_place_1.ann : Ann := { b := fun i => match i with | 1 => #[0, 1, 3, 7, 0, 31, 63, 0, 255, 511] | _ => #[], ord := fun i => match i with | 1 => [0, 1, 2, 3, 4, 5, 6, 7, 8, 9] | _ => [], keep := fun i => match i with  | _ => [] }
theorem client_Client_place_1.eq (t0 : Value) (t1 : Value) (t2 : Value) (h0 : PH) (R : Value → PH → Prop) : codeH PG client_Client_place_1.ann (bodyOf Try.f50) (endH PG Try.f50 R) (fun t => (#[t0, t1, t2] : Array Value).getD t undef) h0 = client_Client_place_1 t0 t1 t2 h0 R := by kernel_rfl
theorem client_Client_place_1.call {t0 : Value} {t1 : Value} {t2 : Value} {h0 : PH} {R : Value → PH → Prop} (H : client_Client_place_1 t0 t1 t2 h0 R) : CallsH PG id_client_Client_place_1 #[t0, t1, t2] h0 R :=
  callsH_by client_Client_place_1.ann mix Try.func50 (by kernel_rfl) (by kernel_rfl) (by kernel_rfl) (by simp [Try.ntmps50]) (client_Client_place_1.eq t0 t1 t2 h0 R) H

def client_Client_From (t0 : Value) (t1 : Value) (h0 : PH) (R : Value → PH → Prop) : Prop :=
 CallsH PG id_client_Client_place #[t0, t1] h0 fun v1 h2 =>
 popO (SemP PG (nilS t0)) fun v3 =>
 popO (SemP PG (Instr.fieldAt T_client_Client v3 1)) fun v4 =>
 popO (SemE PG h2 (Instr.loadAt T_sl_uint64 v4)) fun v5 =>
 popO (SemP PG (Builtin.len_ #[T_sl_uint64] T_int #[v5])) fun v6 =>
 popO (SemE PG h2 (binS BinOp.eql T_int (.tmp 10) (.tmp 15) v1 v6)) fun v7 =>
 condV v7
 (R (Value.tuple #[(Value.int IntKind.u64 0), (Value.bool false)]) h2)
 (popO (SemP PG (nilS t0)) fun v8 =>
 popO (SemP PG (Instr.fieldAt T_client_Client v8 1)) fun v9 =>
 popO (SemE PG h2 (Instr.loadAt T_sl_uint64 v9)) fun v10 =>
 popO (SemP PG (Instr.indexAt T_sl_uint64 v10 v1)) fun v11 =>
 popO (SemE PG h2 (Instr.loadAt T_uint64 v11)) fun v12 =>
 R (Value.tuple #[v12, (Value.bool true)]) h2)
def client_Client_From.ann : Ann := { b := fun i => match i with  | _ => #[], ord := fun i => match i with  | _ => [], keep := fun i => match i with  | _ => [] }
theorem client_Client_From.eq (t0 : Value) (t1 : Value) (h0 : PH) (R : Value → PH → Prop) : codeH PG client_Client_From.ann (bodyOf Try.f35) (endH PG Try.f35 R) (fun t => (#[t0, t1] : Array Value).getD t undef) h0 = client_Client_From t0 t1 h0 R := by kernel_rfl
theorem client_Client_From.call {t0 : Value} {t1 : Value} {h0 : PH} {R : Value → PH → Prop} (H : client_Client_From t0 t1 h0 R) : CallsH PG id_client_Client_From #[t0, t1] h0 R :=
  callsH_by client_Client_From.ann mix Try.func35 (by kernel_rfl) (by kernel_rfl) (by kernel_rfl) (by simp [Try.ntmps35]) (client_Client_From.eq t0 t1 h0 R) H

def client_Client_Latest (t0 : Value) (h0 : PH) (R : Value → PH → Prop) : Prop :=
 popO (SemP PG (nilS t0)) fun v1 =>
 popO (SemP PG (Instr.fieldAt T_client_Client v1 1)) fun v2 =>
 popO (SemE PG h0 (Instr.loadAt T_sl_uint64 v2)) fun v3 =>
 popO (SemP PG (Builtin.len_ #[T_sl_uint64] T_int #[v3])) fun v4 =>
 popO (SemE PG h0 (binS BinOp.eql T_int (.tmp 7) (.const (Value.int IntKind.i64 0)) v4 (Value.int IntKind.i64 0))) fun v5 =>
 condV v5
 (R (Value.int IntKind.u64 0) h0)
 (popO (SemP PG (nilS t0)) fun v6 =>
 popO (SemP PG (Instr.fieldAt T_client_Client v6 1)) fun v7 =>
 popO (SemE PG h0 (Instr.loadAt T_sl_uint64 v7)) fun v8 =>
 popO (SemP PG (nilS t0)) fun v9 =>
 popO (SemP PG (Instr.fieldAt T_client_Client v9 1)) fun v10 =>
 popO (SemE PG h0 (Instr.loadAt T_sl_uint64 v10)) fun v11 =>
 popO (SemP PG (Builtin.len_ #[T_sl_uint64] T_int #[v11])) fun v12 =>
 popO (SemP PG (binOp BinOp.sub T_int v12 (Value.int IntKind.i64 1))) fun v13 =>
 popO (SemP PG (Instr.indexAt T_sl_uint64 v8 v13)) fun v14 =>
 popO (SemE PG h0 (Instr.loadAt T_uint64 v14)) fun v15 =>
 R v15 h0)
def client_Client_Latest.ann : Ann := { b := fun i => match i with | 3 => #[0, 1, 3, 7, 0, 16, 48, 112, 240, 496, 1023, 2047, 4095] | _ => #[], ord := fun i => match i with | 3 => [0, 1, 2, 3, 4, 5, 6, 7, 8, 9, 10, 11, 12] | _ => [], keep := fun i => match i with  | _ => [] }
theorem client_Client_Latest.eq (t0 : Value) (h0 : PH) (R : Value → PH → Prop) : codeH PG client_Client_Latest.ann (bodyOf Try.f37) (endH PG Try.f37 R) (fun t => (#[t0] : Array Value).getD t undef) h0 = client_Client_Latest t0 h0 R := by kernel_rfl
theorem client_Client_Latest.call {t0 : Value} {h0 : PH} {R : Value → PH → Prop} (H : client_Client_Latest t0 h0 R) : CallsH PG id_client_Client_Latest #[t0] h0 R :=
  callsH_by client_Client_Latest.ann mix Try.func37 (by kernel_rfl) (by kernel_rfl) (by kernel_rfl) (by simp [Try.ntmps37]) (client_Client_Latest.eq t0 h0 R) H

def carrackref12_Client_Set (t0 : Value) (t1 : Value) (t2 : Value) (h0 : PH) (R : Value → PH → Prop) : Prop :=
 popO (SemP PG (Builtin.len_ #[T_string] T_int #[t2])) fun v1 =>
 popO (SemE PG h0 (binS BinOp.neq T_int (.tmp 10) (.const (Value.int IntKind.i64 32)) v1 (Value.int IntKind.i64 32))) fun v2 =>
 condV v2
 (R (Value.int IntKind.i64 1) h0)
 (CallsH PG id_carrackref12_Client_Root #[t0, t1] h0 fun v3 h4 =>
 popO (SemP PG (Instr.extract v3 0)) fun v5 =>
 popO (SemP PG (Instr.extract v3 1)) fun v6 =>
 condV v6
 (R (Value.int IntKind.i64 4) h4)
 (popO (SemP PG (nilS t0)) fun v7 =>
 popO (SemP PG (Instr.fieldAt T_carrackref12_Client v7 0)) fun v8 =>
 popO (SemE PG h4 (Instr.loadAt T_sl_carrackref12_Known v8)) fun v9 =>
 popO (SemP PG (Builtin.len_ #[T_sl_carrackref12_Known] T_int #[v9])) fun v10 =>
 popO (SemP PG (binOp BinOp.geq T_int v10 (Value.int IntKind.i64 4096))) fun v11 =>
 condV v11
 (R (Value.int IntKind.i64 2) h4)
 (popO (SemA PG (Instr.buildSlice T_sl_carrackref12_Known 0 #[])) fun x13 => ∀ r12, h4 r12 = none → popO (SemP PG (x13.2 r12)) fun v14 => bindH (PH.set h4 r12 x13.1) fun h15 =>
 popO (SemP PG (nilS t0)) fun v16 =>
 popO (SemP PG (Instr.fieldAt T_carrackref12_Client v16 0)) fun v17 =>
 popO (SemE PG h15 (Instr.loadAt T_sl_carrackref12_Known v17)) fun v18 =>
 SemH PG (Builtin.append_ #[T_sl_carrackref12_Known, T_sl_carrackref12_Known] T_sl_carrackref12_Known #[v14, v18]) h15 fun v19 h20 =>
 popO (SemP PG (Instr.build T_carrackref12_Known #[(0, t1), (1, t2)])) fun v21 =>
 popO (SemA PG (Instr.buildSlice T_sl_carrackref12_Known 1 #[(0, v21)])) fun x23 => ∀ r22, h20 r22 = none → popO (SemP PG (x23.2 r22)) fun v24 => bindH (PH.set h20 r22 x23.1) fun h25 =>
 SemH PG (Builtin.append_ #[T_sl_carrackref12_Known, T_sl_carrackref12_Known] T_sl_carrackref12_Known #[v19, v24]) h25 fun v26 h27 =>
 popO (SemP PG (nilS t0)) fun v28 =>
 popO (SemP PG (Instr.fieldAt T_carrackref12_Client v28 0)) fun v29 =>
 SemH PG (storeS T_sl_carrackref12_Known v29 v26) h27 fun v30 h31 =>
 R (Value.int IntKind.i64 0) h31)))
def carrackref12_Client_Set.ann : Ann := { b := fun i => match i with  | _ => #[], ord := fun i => match i with  | _ => [], keep := fun i => match i with  | _ => [] }
theorem carrackref12_Client_Set.eq (t0 : Value) (t1 : Value) (t2 : Value) (h0 : PH) (R : Value → PH → Prop) : codeH PG carrackref12_Client_Set.ann (bodyOf Try.f32) (endH PG Try.f32 R) (fun t => (#[t0, t1, t2] : Array Value).getD t undef) h0 = carrackref12_Client_Set t0 t1 t2 h0 R := by kernel_rfl
theorem carrackref12_Client_Set.call {t0 : Value} {t1 : Value} {t2 : Value} {h0 : PH} {R : Value → PH → Prop} (H : carrackref12_Client_Set t0 t1 t2 h0 R) : CallsH PG id_carrackref12_Client_Set #[t0, t1, t2] h0 R :=
  callsH_by carrackref12_Client_Set.ann mix Try.func32 (by kernel_rfl) (by kernel_rfl) (by kernel_rfl) (by simp [Try.ntmps32]) (carrackref12_Client_Set.eq t0 t1 t2 h0 R) H

def carrackref12_Client_Root_b2 (R : Value → PH → Prop) (n1 : List Value → PH → Prop) (t0 : Value) (t1 : Value) (t6 : Value) (h0 : PH) : Prop :=
 popO (SemP PG (nilS t0)) fun v3 =>
 popO (SemP PG (Instr.fieldAt T_carrackref12_Client v3 0)) fun v4 =>
 popO (SemE PG h0 (Instr.loadAt T_sl_carrackref12_Known v4)) fun v5 =>
 popO (SemP PG (Builtin.len_ #[T_sl_carrackref12_Known] T_int #[v5])) fun v6 =>
 popO (SemP PG (binOp BinOp.lss T_int t6 v6)) fun v7 =>
 condV v7
 (popO (SemP PG (nilS t0)) fun v8 =>
 popO (SemP PG (Instr.fieldAt T_carrackref12_Client v8 0)) fun v9 =>
 popO (SemE PG h0 (Instr.loadAt T_sl_carrackref12_Known v9)) fun v10 =>
 popO (SemP PG (Instr.indexAt T_sl_carrackref12_Known v10 t6)) fun v11 =>
 popO (SemP PG (Instr.fieldAt T_carrackref12_Known v11 0)) fun v12 =>
 popO (SemE PG h0 (Instr.loadAt T_uint64 v12)) fun v13 =>
 popO (SemE PG h0 (binS BinOp.eql T_uint64 (.tmp 23) (.tmp 24) v13 t1)) fun v14 =>
 condV v14
 (popO (SemP PG (nilS t0)) fun v15 =>
 popO (SemP PG (Instr.fieldAt T_carrackref12_Client v15 0)) fun v16 =>
 popO (SemE PG h0 (Instr.loadAt T_sl_carrackref12_Known v16)) fun v17 =>
 popO (SemP PG (Instr.indexAt T_sl_carrackref12_Known v17 t6)) fun v18 =>
 popO (SemP PG (Instr.fieldAt T_carrackref12_Known v18 1)) fun v19 =>
 popO (SemE PG h0 (Instr.loadAt T_string v19)) fun v20 =>
 R (Value.tuple #[v20, (Value.bool true)]) h0)
 (popO (SemP PG (binOp BinOp.add T_int t6 (Value.int IntKind.i64 1))) fun v21 =>
 n1 [t0, t1, v21] h0))
 (R (Value.tuple #[(Value.string { data := #[] }), (Value.bool false)]) h0)
def carrackref12_Client_Root (t0 : Value) (t1 : Value) (h0 : PH) (R : Value → PH → Prop) : Prop :=
 LoopL [0, 1, 6] (fun n1 ρ h => carrackref12_Client_Root_b2 R n1 (ρ 0) (ρ 1) (ρ 6) h) [t0, t1, (Value.int IntKind.i64 0)] h0
def carrackref12_Client_Root.ann : Ann := { b := fun i => match i with  | _ => #[], ord := fun i => match i with  | _ => [], keep := fun i => match i with | 2 => [0, 1, 6] | _ => [] }
theorem carrackref12_Client_Root.eq (t0 : Value) (t1 : Value) (h0 : PH) (R : Value → PH → Prop) : codeH PG carrackref12_Client_Root.ann (bodyOf Try.f34) (endH PG Try.f34 R) (fun t => (#[t0, t1] : Array Value).getD t undef) h0 = carrackref12_Client_Root t0 t1 h0 R := by kernel_rfl
theorem carrackref12_Client_Root.call {t0 : Value} {t1 : Value} {h0 : PH} {R : Value → PH → Prop} (H : carrackref12_Client_Root t0 t1 h0 R) : CallsH PG id_carrackref12_Client_Root #[t0, t1] h0 R :=
  callsH_by carrackref12_Client_Root.ann mix Try.func34 (by kernel_rfl) (by kernel_rfl) (by kernel_rfl) (by simp [Try.ntmps34]) (carrackref12_Client_Root.eq t0 t1 h0 R) H

def client_Client_Root (t0 : Value) (t1 : Value) (h0 : PH) (R : Value → PH → Prop) : Prop :=
 popO (SemP PG (nilS t0)) fun v1 =>
 popO (SemP PG (Instr.fieldAt T_client_Client v1 0)) fun v2 =>
 popO (SemE PG h0 (Instr.loadAt T_map_uint64_string v2)) fun v3 =>
 popO (SemE PG h0 (Instr.lookup T_map_uint64_string v3 t1 true)) fun v4 =>
 popO (SemP PG (Instr.extract v4 0)) fun v5 =>
 popO (SemP PG (Instr.extract v4 1)) fun v6 =>
 R (Value.tuple #[v5, v6]) h0
def client_Client_Root.ann : Ann := { b := fun i => match i with  | _ => #[], ord := fun i => match i with  | _ => [], keep := fun i => match i with  | _ => [] }
theorem client_Client_Root.eq (t0 : Value) (t1 : Value) (h0 : PH) (R : Value → PH → Prop) : codeH PG client_Client_Root.ann (bodyOf Try.f33) (endH PG Try.f33 R) (fun t => (#[t0, t1] : Array Value).getD t undef) h0 = client_Client_Root t0 t1 h0 R := by kernel_rfl
theorem client_Client_Root.call {t0 : Value} {t1 : Value} {h0 : PH} {R : Value → PH → Prop} (H : client_Client_Root t0 t1 h0 R) : CallsH PG id_client_Client_Root #[t0, t1] h0 R :=
  callsH_by client_Client_Root.ann mix Try.func33 (by kernel_rfl) (by kernel_rfl) (by kernel_rfl) (by simp [Try.ntmps33]) (client_Client_Root.eq t0 t1 h0 R) H

def carrackref12_Client_From_k41 (R : Value → PH → Prop) (n1 : List Value → PH → Prop) (t0 : Value) (t1 : Value) (t6 : Value) (t7 : Value) (t8 : Value) (h0 : PH) : Prop :=
 popO (SemP PG (binOp BinOp.add T_int t8 (Value.int IntKind.i64 1))) fun v42 =>
 n1 [t0, t1, t6, t7, v42] h0
def carrackref12_Client_From_k40 (R : Value → PH → Prop) (n1 : List Value → PH → Prop) (t0 : Value) (t1 : Value) (t6 : Value) (t7 : Value) (t8 : Value) (h0 : PH) : Prop :=
 carrackref12_Client_From_k41 R n1 t0 t1 t6 t7 t8 h0
def carrackref12_Client_From_b2 (R : Value → PH → Prop) (n1 : List Value → PH → Prop) (t0 : Value) (t1 : Value) (t6 : Value) (t7 : Value) (t8 : Value) (h0 : PH) : Prop :=
 popO (SemP PG (nilS t0)) fun v3 =>
 popO (SemP PG (Instr.fieldAt T_carrackref12_Client v3 0)) fun v4 =>
 popO (SemE PG h0 (Instr.loadAt T_sl_carrackref12_Known v4)) fun v5 =>
 popO (SemP PG (Builtin.len_ #[T_sl_carrackref12_Known] T_int #[v5])) fun v6 =>
 popO (SemP PG (binOp BinOp.lss T_int t8 v6)) fun v7 =>
 condV v7
 (popO (SemP PG (nilS t0)) fun v8 =>
 popO (SemP PG (Instr.fieldAt T_carrackref12_Client v8 0)) fun v9 =>
 popO (SemE PG h0 (Instr.loadAt T_sl_carrackref12_Known v9)) fun v10 =>
 popO (SemP PG (Instr.indexAt T_sl_carrackref12_Known v10 t8)) fun v11 =>
 popO (SemP PG (Instr.fieldAt T_carrackref12_Known v11 0)) fun v12 =>
 popO (SemE PG h0 (Instr.loadAt T_uint64 v12)) fun v13 =>
 popO (SemP PG (binOp BinOp.geq T_uint64 v13 t1)) fun v14 =>
 gopV (yV v14) true (fun k17 => k17 t7 h0) h0 fun v15 h16 =>
 gopV (yV v14) true (fun k20 => popO (SemP PG (Op.unary UnOp.not v15)) fun v21 => k20 v21 h16) h16 fun v18 h19 =>
 gopV (yV v14) true (fun k24 => k24 v18 h19) h19 fun v22 h23 =>
 gopV (yV v22) false (fun k27 => k27 v13 h23) h23 fun v25 h26 =>
 gopV (yV v22) false (fun k30 => k30 t6 h26) h26 fun v28 h29 =>
 gopV (yV v22) false (fun k33 => popO (SemP PG (binOp BinOp.lss T_uint64 v25 v28)) fun v34 => k33 v34 h29) h29 fun v31 h32 =>
 gopV (yV v14) true (fun k37 => popO (pickV v22 (Value.bool true) v31) fun v38 => k37 v38 h32) h32 fun v35 h36 =>
 popO (pickV v14 v35 (Value.bool false)) fun v39 =>
 condV v39
 (carrackref12_Client_From_k40 R n1 t0 t1 v13 (Value.bool true) t8 h36)
 (carrackref12_Client_From_k40 R n1 t0 t1 t6 t7 t8 h36))
 (R (Value.tuple #[t6, t7]) h0)
def carrackref12_Client_From (t0 : Value) (t1 : Value) (h0 : PH) (R : Value → PH → Prop) : Prop :=
 LoopL [0, 1, 6, 7, 8] (fun n1 ρ h => carrackref12_Client_From_b2 R n1 (ρ 0) (ρ 1) (ρ 6) (ρ 7) (ρ 8) h) [t0, t1, (Value.int IntKind.u64 0), (Value.bool false), (Value.int IntKind.i64 0)] h0
def carrackref12_Client_From.ann : Ann := { b := fun i => match i with  | _ => #[], ord := fun i => match i with  | _ => [], keep := fun i => match i with | 3 => [0, 1, 6, 7, 8] | _ => [] }
theorem carrackref12_Client_From.eq (t0 : Value) (t1 : Value) (h0 : PH) (R : Value → PH → Prop) : codeH PG carrackref12_Client_From.ann (bodyOf Try.f36) (endH PG Try.f36 R) (fun t => (#[t0, t1] : Array Value).getD t undef) h0 = carrackref12_Client_From t0 t1 h0 R := by kernel_rfl
theorem carrackref12_Client_From.call {t0 : Value} {t1 : Value} {h0 : PH} {R : Value → PH → Prop} (H : carrackref12_Client_From t0 t1 h0 R) : CallsH PG id_carrackref12_Client_From #[t0, t1] h0 R :=
  callsH_by carrackref12_Client_From.ann mix Try.func36 (by kernel_rfl) (by kernel_rfl) (by kernel_rfl) (by simp [Try.ntmps36]) (carrackref12_Client_From.eq t0 t1 h0 R) H

def carrackref12_Client_Latest_k22 (R : Value → PH → Prop) (n1 : List Value → PH → Prop) (t0 : Value) (t3 : Value) (t4 : Value) (h0 : PH) : Prop :=
 popO (SemP PG (binOp BinOp.add T_int t4 (Value.int IntKind.i64 1))) fun v23 =>
 n1 [t0, t3, v23] h0
def carrackref12_Client_Latest_k21 (R : Value → PH → Prop) (n1 : List Value → PH → Prop) (t0 : Value) (t3 : Value) (t4 : Value) (h0 : PH) : Prop :=
 carrackref12_Client_Latest_k22 R n1 t0 t3 t4 h0
def carrackref12_Client_Latest_b2 (R : Value → PH → Prop) (n1 : List Value → PH → Prop) (t0 : Value) (t3 : Value) (t4 : Value) (h0 : PH) : Prop :=
 popO (SemP PG (nilS t0)) fun v3 =>
 popO (SemP PG (Instr.fieldAt T_carrackref12_Client v3 0)) fun v4 =>
 popO (SemE PG h0 (Instr.loadAt T_sl_carrackref12_Known v4)) fun v5 =>
 popO (SemP PG (Builtin.len_ #[T_sl_carrackref12_Known] T_int #[v5])) fun v6 =>
 popO (SemP PG (binOp BinOp.lss T_int t4 v6)) fun v7 =>
 condV v7
 (popO (SemP PG (nilS t0)) fun v8 =>
 popO (SemP PG (Instr.fieldAt T_carrackref12_Client v8 0)) fun v9 =>
 popO (SemE PG h0 (Instr.loadAt T_sl_carrackref12_Known v9)) fun v10 =>
 popO (SemP PG (Instr.indexAt T_sl_carrackref12_Known v10 t4)) fun v11 =>
 popO (SemP PG (Instr.fieldAt T_carrackref12_Known v11 0)) fun v12 =>
 popO (SemE PG h0 (Instr.loadAt T_uint64 v12)) fun v13 =>
 popO (SemP PG (binOp BinOp.gtr T_uint64 v13 t3)) fun v14 =>
 condV v14
 (popO (SemP PG (nilS t0)) fun v15 =>
 popO (SemP PG (Instr.fieldAt T_carrackref12_Client v15 0)) fun v16 =>
 popO (SemE PG h0 (Instr.loadAt T_sl_carrackref12_Known v16)) fun v17 =>
 popO (SemP PG (Instr.indexAt T_sl_carrackref12_Known v17 t4)) fun v18 =>
 popO (SemP PG (Instr.fieldAt T_carrackref12_Known v18 0)) fun v19 =>
 popO (SemE PG h0 (Instr.loadAt T_uint64 v19)) fun v20 =>
 carrackref12_Client_Latest_k21 R n1 t0 v20 t4 h0)
 (carrackref12_Client_Latest_k21 R n1 t0 t3 t4 h0))
 (R t3 h0)
def carrackref12_Client_Latest (t0 : Value) (h0 : PH) (R : Value → PH → Prop) : Prop :=
 LoopL [0, 3, 4] (fun n1 ρ h => carrackref12_Client_Latest_b2 R n1 (ρ 0) (ρ 3) (ρ 4) h) [t0, (Value.int IntKind.u64 0), (Value.int IntKind.i64 0)] h0
def carrackref12_Client_Latest.ann : Ann := { b := fun i => match i with  | _ => #[], ord := fun i => match i with  | _ => [], keep := fun i => match i with | 3 => [0, 3, 4] | _ => [] }
theorem carrackref12_Client_Latest.eq (t0 : Value) (h0 : PH) (R : Value → PH → Prop) : codeH PG carrackref12_Client_Latest.ann (bodyOf Try.f38) (endH PG Try.f38 R) (fun t => (#[t0] : Array Value).getD t undef) h0 = carrackref12_Client_Latest t0 h0 R := by kernel_rfl
theorem carrackref12_Client_Latest.call {t0 : Value} {h0 : PH} {R : Value → PH → Prop} (H : carrackref12_Client_Latest t0 h0 R) : CallsH PG id_carrackref12_Client_Latest #[t0] h0 R :=
  callsH_by carrackref12_Client_Latest.ann mix Try.func38 (by kernel_rfl) (by kernel_rfl) (by kernel_rfl) (by simp [Try.ntmps38]) (carrackref12_Client_Latest.eq t0 h0 R) H

def carracklaw12_numbers_b5 (R : Value → PH → Prop) (n4 : List Value → PH → Prop) (t0 : Value) (t1 : Value) (t5 : Value) (h0 : PH) : Prop :=
 popO (SemP PG (Builtin.len_ #[T_sl_uint64] T_int #[t0])) fun v6 =>
 popO (SemP PG (binOp BinOp.lss T_int t5 v6)) fun v7 =>
 condV v7
 (popO (SemP PG (Instr.indexAt T_sl_uint64 t0 t5)) fun v8 =>
 popO (SemE PG h0 (Instr.loadAt T_uint64 v8)) fun v9 =>
 popO (SemP PG (Instr.indexAt T_sl_uint64 t1 t5)) fun v10 =>
 popO (SemE PG h0 (Instr.loadAt T_uint64 v10)) fun v11 =>
 popO (SemE PG h0 (binS BinOp.neq T_uint64 (.tmp 20) (.tmp 24) v9 v11)) fun v12 =>
 condV v12
 (R (Value.bool false) h0)
 (popO (SemP PG (binOp BinOp.add T_int t5 (Value.int IntKind.i64 1))) fun v13 =>
 n4 [t0, t1, v13] h0))
 (R (Value.bool true) h0)
def carracklaw12_numbers (t0 : Value) (t1 : Value) (h0 : PH) (R : Value → PH → Prop) : Prop :=
 popO (SemP PG (Builtin.len_ #[T_sl_uint64] T_int #[t0])) fun v1 =>
 popO (SemP PG (Builtin.len_ #[T_sl_uint64] T_int #[t1])) fun v2 =>
 popO (SemE PG h0 (binS BinOp.neq T_int (.tmp 7) (.tmp 9) v1 v2)) fun v3 =>
 condV v3
 (R (Value.bool false) h0)
 (LoopL [0, 1, 5] (fun n4 ρ h => carracklaw12_numbers_b5 R n4 (ρ 0) (ρ 1) (ρ 5) h) [t0, t1, (Value.int IntKind.i64 0)] h0)
def carracklaw12_numbers.ann : Ann := { b := fun i => match i with | 6 => #[0, 0, 3, 7, 0, 0, 48, 112, 255] | _ => #[], ord := fun i => match i with | 6 => [0, 1, 2, 3, 4, 5, 6, 7, 8] | _ => [], keep := fun i => match i with | 4 => [0, 1, 5] | _ => [] }
theorem carracklaw12_numbers.eq (t0 : Value) (t1 : Value) (h0 : PH) (R : Value → PH → Prop) : codeH PG carracklaw12_numbers.ann (bodyOf Try.f39) (endH PG Try.f39 R) (fun t => (#[t0, t1] : Array Value).getD t undef) h0 = carracklaw12_numbers t0 t1 h0 R := by kernel_rfl
theorem carracklaw12_numbers.call {t0 : Value} {t1 : Value} {h0 : PH} {R : Value → PH → Prop} (H : carracklaw12_numbers t0 t1 h0 R) : CallsH PG id_carracklaw12_numbers #[t0, t1] h0 R :=
  callsH_by carracklaw12_numbers.ann mix Try.func39 (by kernel_rfl) (by kernel_rfl) (by kernel_rfl) (by simp [Try.ntmps39]) (carracklaw12_numbers.eq t0 t1 h0 R) H

def client_Client_Heights (t0 : Value) (h0 : PH) (R : Value → PH → Prop) : Prop :=
 popO (SemP PG (nilS t0)) fun v1 =>
 popO (SemP PG (Instr.fieldAt T_client_Client v1 1)) fun v2 =>
 popO (SemE PG h0 (Instr.loadAt T_sl_uint64 v2)) fun v3 =>
 CallsH PG id_slices_Clone_sl_uint64_uint64 #[v3] h0 fun v4 h5 =>
 R v4 h5
def client_Client_Heights.ann : Ann := { b := fun i => match i with  | _ => #[], ord := fun i => match i with  | _ => [], keep := fun i => match i with  | _ => [] }
theorem client_Client_Heights.eq (t0 : Value) (h0 : PH) (R : Value → PH → Prop) : codeH PG client_Client_Heights.ann (bodyOf Try.f40) (endH PG Try.f40 R) (fun t => (#[t0] : Array Value).getD t undef) h0 = client_Client_Heights t0 h0 R := by kernel_rfl
theorem client_Client_Heights.call {t0 : Value} {h0 : PH} {R : Value → PH → Prop} (H : client_Client_Heights t0 h0 R) : CallsH PG id_client_Client_Heights #[t0] h0 R :=
  callsH_by client_Client_Heights.ann mix Try.func40 (by kernel_rfl) (by kernel_rfl) (by kernel_rfl) (by simp [Try.ntmps40]) (client_Client_Heights.eq t0 h0 R) H

def slices_Clone_sl_uint64_uint64 (t0 : Value) (h0 : PH) (R : Value → PH → Prop) : Prop :=
 popO (SemE PG h0 (binS BinOp.eql T_sl_uint64 (.tmp 3) (.const (Value.slice none 0 0)) t0 (Value.slice none 0 0))) fun v1 =>
 condV v1
 (R (Value.slice none 0 0) h0)
 (popO (SemA PG (Instr.buildSlice T_sl_uint64 0 #[])) fun x3 => ∀ r2, h0 r2 = none → popO (SemP PG (x3.2 r2)) fun v4 => bindH (PH.set h0 r2 x3.1) fun h5 =>
 SemH PG (Builtin.append_ #[T_sl_uint64, T_sl_uint64] T_sl_uint64 #[v4, t0]) h5 fun v6 h7 =>
 R v6 h7)
def slices_Clone_sl_uint64_uint64.ann : Ann := { b := fun i => match i with  | _ => #[], ord := fun i => match i with  | _ => [], keep := fun i => match i with  | _ => [] }
theorem slices_Clone_sl_uint64_uint64.eq (t0 : Value) (h0 : PH) (R : Value → PH → Prop) : codeH PG slices_Clone_sl_uint64_uint64.ann (bodyOf Try.f48) (endH PG Try.f48 R) (fun t => (#[t0] : Array Value).getD t undef) h0 = slices_Clone_sl_uint64_uint64 t0 h0 R := by kernel_rfl
theorem slices_Clone_sl_uint64_uint64.call {t0 : Value} {h0 : PH} {R : Value → PH → Prop} (H : slices_Clone_sl_uint64_uint64 t0 h0 R) : CallsH PG id_slices_Clone_sl_uint64_uint64 #[t0] h0 R :=
  callsH_by slices_Clone_sl_uint64_uint64.ann mix Try.func48 (by kernel_rfl) (by kernel_rfl) (by kernel_rfl) (by simp [Try.ntmps48]) (slices_Clone_sl_uint64_uint64.eq t0 h0 R) H

def carrackref12_Client_Heights_b2 (R : Value → PH → Prop) (n1 : List Value → PH → Prop) (t0 : Value) (t3 : Value) (t4 : Value) (h0 : PH) : Prop :=
 CallsH PG id_carrackref12_Client_From #[t0, t4] h0 fun v3 h4 =>
 popO (SemP PG (Instr.extract v3 0)) fun v5 =>
 popO (SemP PG (Instr.extract v3 1)) fun v6 =>
 popO (SemP PG (Op.unary UnOp.not v6)) fun v7 =>
 condV v7
 (R t3 h4)
 (popO (SemA PG (Instr.buildSlice T_sl_uint64 1 #[(0, v5)])) fun x9 => ∀ r8, h4 r8 = none → popO (SemP PG (x9.2 r8)) fun v10 => bindH (PH.set h4 r8 x9.1) fun h11 =>
 SemH PG (Builtin.append_ #[T_sl_uint64, T_sl_uint64] T_sl_uint64 #[t3, v10]) h11 fun v12 h13 =>
 popO (SemP PG (binOp BinOp.add T_uint64 v5 (Value.int IntKind.u64 1))) fun v14 =>
 popO (SemE PG h13 (binS BinOp.eql T_uint64 (.tmp 22) (.const (Value.int IntKind.u64 0)) v14 (Value.int IntKind.u64 0))) fun v15 =>
 condV v15
 (R v12 h13)
 (n1 [t0, v12, v14] h13))
def carrackref12_Client_Heights (t0 : Value) (h0 : PH) (R : Value → PH → Prop) : Prop :=
 LoopL [0, 3, 4] (fun n1 ρ h => carrackref12_Client_Heights_b2 R n1 (ρ 0) (ρ 3) (ρ 4) h) [t0, (Value.slice none 0 0), (Value.int IntKind.u64 0)] h0
def carrackref12_Client_Heights.ann : Ann := { b := fun i => match i with  | _ => #[], ord := fun i => match i with  | _ => [], keep := fun i => match i with | 3 => [0, 3, 4] | _ => [] }
theorem carrackref12_Client_Heights.eq (t0 : Value) (h0 : PH) (R : Value → PH → Prop) : codeH PG carrackref12_Client_Heights.ann (bodyOf Try.f41) (endH PG Try.f41 R) (fun t => (#[t0] : Array Value).getD t undef) h0 = carrackref12_Client_Heights t0 h0 R := by kernel_rfl
theorem carrackref12_Client_Heights.call {t0 : Value} {h0 : PH} {R : Value → PH → Prop} (H : carrackref12_Client_Heights t0 h0 R) : CallsH PG id_carrackref12_Client_Heights #[t0] h0 R :=
  callsH_by carrackref12_Client_Heights.ann mix Try.func41 (by kernel_rfl) (by kernel_rfl) (by kernel_rfl) (by simp [Try.ntmps41]) (carrackref12_Client_Heights.eq t0 h0 R) H

def carracklaw12_ClientKeeps_b130 (R : Value → PH → Prop) (n13 : List Value → PH → Prop) (n129 : List Value → PH → Prop) (t0 : Value) (t3 : Value) (t4 : Value) (t5 : Value) (t9 : Value) (t10 : Value) (h0 : PH) : Prop :=
 popO (SemP PG (Builtin.len_ #[T_sl_uint64] T_int #[t9])) fun v131 =>
 popO (SemP PG (binOp BinOp.lss T_int t10 v131)) fun v132 =>
 condV v132
 (popO (SemP PG (Instr.indexAt T_sl_uint64 t9 t10)) fun v133 =>
 popO (SemE PG h0 (Instr.loadAt T_uint64 v133)) fun v134 =>
 CallsH PG id_client_Client_Root #[t3, v134] h0 fun v135 h136 =>
 popO (SemP PG (Instr.extract v135 0)) fun v137 =>
 popO (SemP PG (Instr.extract v135 1)) fun v138 =>
 popO (SemP PG (Instr.indexAt T_sl_uint64 t9 t10)) fun v139 =>
 popO (SemE PG h136 (Instr.loadAt T_uint64 v139)) fun v140 =>
 CallsH PG id_client_Client_From #[t3, v140] h136 fun v141 h142 =>
 popO (SemP PG (Instr.extract v141 0)) fun v143 =>
 popO (SemP PG (Instr.extract v141 1)) fun v144 =>
 popO (SemP PG (Op.unary UnOp.not v138)) fun v145 =>
 gopV (yV v145) false (fun k148 => k148 v137 h142) h142 fun v146 h147 =>
 gopV (yV v145) false (fun k151 => k151 t4 h147) h147 fun v149 h150 =>
 gopV (yV v145) false (fun k154 => k154 t9 h150) h150 fun v152 h153 =>
 gopV (yV v145) false (fun k157 => k157 t10 h153) h153 fun v155 h156 =>
 gopV (yV v145) false (fun k160 => popO (SemP PG (Instr.indexAt T_sl_uint64 v152 v155)) fun v161 => k160 v161 h156) h156 fun v158 h159 =>
 gopV (yV v145) false (fun k164 => popO (SemE PG h159 (Instr.loadAt T_uint64 v158)) fun v165 => k164 v165 h159) h159 fun v162 h163 =>
 gopV (yV v145) false (fun k168 => popO (SemE PG h163 (Instr.lookup T_map_uint64_string v149 v162 false)) fun v169 => k168 v169 h163) h163 fun v166 h167 =>
 gopV (yV v145) false (fun k172 => popO (SemE PG h167 (binS BinOp.neq T_string (.tmp 129) (.tmp 135) v146 v166)) fun v173 => k172 v173 h167) h167 fun v170 h171 =>
 popO (pickV v145 (Value.bool true) v170) fun v174 =>
 gopV (yV v174) false (fun k177 => k177 v144 h171) h171 fun v175 h176 =>
 gopV (yV v174) false (fun k180 => popO (SemP PG (Op.unary UnOp.not v175)) fun v181 => k180 v181 h176) h176 fun v178 h179 =>
 popO (pickV v174 (Value.bool true) v178) fun v182 =>
 gopV (yV v182) false (fun k185 => k185 v143 h179) h179 fun v183 h184 =>
 gopV (yV v182) false (fun k188 => k188 t9 h184) h184 fun v186 h187 =>
 gopV (yV v182) false (fun k191 => k191 t10 h187) h187 fun v189 h190 =>
 gopV (yV v182) false (fun k194 => popO (SemP PG (Instr.indexAt T_sl_uint64 v186 v189)) fun v195 => k194 v195 h190) h190 fun v192 h193 =>
 gopV (yV v182) false (fun k198 => popO (SemE PG h193 (Instr.loadAt T_uint64 v192)) fun v199 => k198 v199 h193) h193 fun v196 h197 =>
 gopV (yV v182) false (fun k202 => popO (SemE PG h197 (binS BinOp.neq T_uint64 (.tmp 143) (.tmp 147) v183 v196)) fun v203 => k202 v203 h197) h197 fun v200 h201 =>
 popO (pickV v182 (Value.bool true) v200) fun v204 =>
 gopV (yV v204) false (fun k207 => k207 t10 h201) h201 fun v205 h206 =>
 gopV (yV v204) false (fun k210 => popO (SemP PG (binOp BinOp.gtr T_int v205 (Value.int IntKind.i64 0))) fun v211 => k210 v211 h206) h206 fun v208 h209 =>
 gopV (yV v204) false (fun k214 => k214 v208 h209) h209 fun v212 h213 =>
 gopV (yV v212) true (fun k217 => k217 t9 h213) h213 fun v215 h216 =>
 gopV (yV v212) true (fun k220 => k220 t10 h216) h216 fun v218 h219 =>
 gopV (yV v212) true (fun k223 => popO (SemP PG (Instr.indexAt T_sl_uint64 v215 v218)) fun v224 => k223 v224 h219) h219 fun v221 h222 =>
 gopV (yV v212) true (fun k227 => popO (SemE PG h222 (Instr.loadAt T_uint64 v221)) fun v228 => k227 v228 h222) h222 fun v225 h226 =>
 gopV (yV v212) true (fun k231 => k231 t9 h226) h226 fun v229 h230 =>
 gopV (yV v212) true (fun k234 => k234 t10 h230) h230 fun v232 h233 =>
 gopV (yV v212) true (fun k237 => popO (SemP PG (binOp BinOp.sub T_int v232 (Value.int IntKind.i64 1))) fun v238 => k237 v238 h233) h233 fun v235 h236 =>
 gopV (yV v212) true (fun k241 => popO (SemP PG (Instr.indexAt T_sl_uint64 v229 v235)) fun v242 => k241 v242 h236) h236 fun v239 h240 =>
 gopV (yV v212) true (fun k245 => popO (SemE PG h240 (Instr.loadAt T_uint64 v239)) fun v246 => k245 v246 h240) h240 fun v243 h244 =>
 gopV (yV v212) true (fun k249 => popO (SemP PG (binOp BinOp.leq T_uint64 v225 v243)) fun v250 => k249 v250 h244) h244 fun v247 h248 =>
 gopV (yV v204) false (fun k253 => popO (pickV v212 v247 (Value.bool false)) fun v254 => k253 v254 h248) h248 fun v251 h252 =>
 popO (pickV v204 (Value.bool true) v251) fun v255 =>
 condV v255
 (R (Value.bool false) h252)
 (popO (SemP PG (binOp BinOp.add T_int t10 (Value.int IntKind.i64 1))) fun v256 =>
 n129 [t0, t3, t4, t5, t9, v256] h252))
 (popO (SemP PG (binOp BinOp.add T_int t5 (Value.int IntKind.i64 1))) fun v257 =>
 n13 [t0, t3, t4, v257] h0)
def carracklaw12_ClientKeeps_k70 (R : Value → PH → Prop) (n13 : List Value → PH → Prop) (t0 : Value) (t3 : Value) (t4 : Value) (t5 : Value) (h0 : PH) : Prop :=
 CallsH PG id_client_Client_Heights #[t3] h0 fun v71 h72 =>
 popO (SemP PG (Builtin.len_ #[T_sl_uint64] T_int #[v71])) fun v73 =>
 popO (SemE PG h72 (Builtin.len_ #[T_map_uint64_string] T_int #[t4])) fun v74 =>
 popO (SemE PG h72 (binS BinOp.neq T_int (.tmp 82) (.tmp 84) v73 v74)) fun v75 =>
 gopV (yV v75) false (fun k78 => k78 v71 h72) h72 fun v76 h77 =>
 gopV (yV v75) false (fun k81 => popO (SemP PG (Builtin.len_ #[T_sl_uint64] T_int #[v76])) fun v82 => k81 v82 h77) h77 fun v79 h80 =>
 gopV (yV v75) false (fun k85 => popO (SemP PG (binOp BinOp.gtr T_int v79 (Value.int IntKind.i64 0))) fun v86 => k85 v86 h80) h80 fun v83 h84 =>
 gopV (yV v75) false (fun k89 => k89 v83 h84) h84 fun v87 h88 =>
 gopV (yV v87) true (fun k92 => k92 t3 h88) h88 fun v90 h91 =>
 gopV (yV v87) true (fun k95 => k95 v71 h91) h91 fun v93 h94 =>
 gopV (yV v87) true (fun k98 => k98 v71 h94) h94 fun v96 h97 =>
 gopV (yV v87) true (fun k101 => popO (SemP PG (Builtin.len_ #[T_sl_uint64] T_int #[v96])) fun v102 => k101 v102 h97) h97 fun v99 h100 =>
 gopV (yV v87) true (fun k105 => popO (SemP PG (binOp BinOp.sub T_int v99 (Value.int IntKind.i64 1))) fun v106 => k105 v106 h100) h100 fun v103 h104 =>
 gopV (yV v87) true (fun k109 => popO (SemP PG (Instr.indexAt T_sl_uint64 v93 v103)) fun v110 => k109 v110 h104) h104 fun v107 h108 =>
 gopV (yV v87) true (fun k113 => popO (SemE PG h108 (Instr.loadAt T_uint64 v107)) fun v114 => k113 v114 h108) h108 fun v111 h112 =>
 gopV (yV v87) true (fun k117 => CallsH PG id_client_Client_Latest #[v90] h112 fun v118 h119 => k117 v118 h119) h112 fun v115 h116 =>
 ((yV v87 == some true) = true → SemE PG h116 (Instr.loadAt T_uint64 v107) = some v111) ∧ (gopV (yV v87) true (fun k122 => popO (SemE PG h116 (binS BinOp.neq T_uint64 (.tmp 92) (.tmp 98) v115 v111)) fun v123 => k122 v123 h116) h116 fun v120 h121 =>
 gopV (yV v75) false (fun k126 => popO (pickV v87 v120 (Value.bool false)) fun v127 => k126 v127 h121) h121 fun v124 h125 =>
 popO (pickV v75 (Value.bool true) v124) fun v128 =>
 condV v128
 (R (Value.bool false) h125)
 (LoopL [0, 3, 4, 5, 9, 10] (fun n129 ρ h => carracklaw12_ClientKeeps_b130 R n13 n129 (ρ 0) (ρ 3) (ρ 4) (ρ 5) (ρ 9) (ρ 10) h) [t0, t3, t4, t5, v71, (Value.int IntKind.i64 0)] h125))
def carracklaw12_ClientKeeps_b14 (R : Value → PH → Prop) (n13 : List Value → PH → Prop) (t0 : Value) (t3 : Value) (t4 : Value) (t5 : Value) (h0 : PH) : Prop :=
 popO (SemP PG (Builtin.len_ #[T_sl_carrackref12_Known] T_int #[t0])) fun v15 =>
 popO (SemP PG (binOp BinOp.lss T_int t5 v15)) fun v16 =>
 condV v16
 (popO (SemP PG (Instr.indexAt T_sl_carrackref12_Known t0 t5)) fun v17 =>
 popO (SemP PG (Instr.fieldAt T_carrackref12_Known v17 0)) fun v18 =>
 popO (SemE PG h0 (Instr.loadAt T_uint64 v18)) fun v19 =>
 popO (SemP PG (Instr.indexAt T_sl_carrackref12_Known t0 t5)) fun v20 =>
 popO (SemP PG (Instr.fieldAt T_carrackref12_Known v20 1)) fun v21 =>
 popO (SemE PG h0 (Instr.loadAt T_string v21)) fun v22 =>
 CallsH PG id_client_Client_Set #[t3, v19, v22] h0 fun v23 h24 =>
 (popO (SemP PG (Instr.indexAt T_sl_carrackref12_Known t0 t5)) fun v25 =>
 popO (SemP PG (Instr.fieldAt T_carrackref12_Known v25 0)) fun v26 =>
 popO (SemE PG h24 (Instr.loadAt T_uint64 v26)) fun v27 =>
 popO (SemE PG h24 (Instr.lookup T_map_uint64_string t4 v27 true)) fun v28 =>
 popO (SemP PG (Instr.extract v28 0)) fun v29 =>
 popO (SemP PG (Instr.extract v28 1)) fun v30 =>
 popO (SemE PG h24 (binS BinOp.eql T_api_Errno (.tmp 52) (.const (Value.int IntKind.i64 0)) v23 (Value.int IntKind.i64 0))) fun v31 =>
 popO (SemP PG (Op.unary UnOp.not v30)) fun v32 =>
 gopV (yV v32) true (fun k35 => k35 t0 h24) h24 fun v33 h34 =>
 gopV (yV v32) true (fun k38 => k38 t5 h34) h34 fun v36 h37 =>
 gopV (yV v32) true (fun k41 => popO (SemP PG (Instr.indexAt T_sl_carrackref12_Known v33 v36)) fun v42 => k41 v42 h37) h37 fun v39 h40 =>
 gopV (yV v32) true (fun k45 => popO (SemP PG (Instr.fieldAt T_carrackref12_Known v39 1)) fun v46 => k45 v46 h40) h40 fun v43 h44 =>
 gopV (yV v32) true (fun k49 => popO (SemE PG h44 (Instr.loadAt T_string v43)) fun v50 => k49 v50 h44) h44 fun v47 h48 =>
 gopV (yV v32) true (fun k53 => popO (SemP PG (Builtin.len_ #[T_string] T_int #[v47])) fun v54 => k53 v54 h48) h48 fun v51 h52 =>
 gopV (yV v32) true (fun k57 => popO (SemE PG h52 (binS BinOp.eql T_int (.tmp 62) (.const (Value.int IntKind.i64 32)) v51 (Value.int IntKind.i64 32))) fun v58 => k57 v58 h52) h52 fun v55 h56 =>
 popO (pickV v32 v55 (Value.bool false)) fun v59 =>
 popO (SemE PG h56 (binS BinOp.neq T_bool (.tmp 53) (.tmp 64) v31 v59)) fun v60 =>
 condV v60
 (R (Value.bool false) h56)
 (popO (SemE PG h56 (binS BinOp.eql T_api_Errno (.tmp 66) (.const (Value.int IntKind.i64 0)) v23 (Value.int IntKind.i64 0))) fun v61 =>
 condV v61
 (popO (SemP PG (Instr.indexAt T_sl_carrackref12_Known t0 t5)) fun v62 =>
 popO (SemP PG (Instr.fieldAt T_carrackref12_Known v62 0)) fun v63 =>
 popO (SemE PG h56 (Instr.loadAt T_uint64 v63)) fun v64 =>
 popO (SemP PG (Instr.indexAt T_sl_carrackref12_Known t0 t5)) fun v65 =>
 popO (SemP PG (Instr.fieldAt T_carrackref12_Known v65 1)) fun v66 =>
 popO (SemE PG h56 (Instr.loadAt T_string v66)) fun v67 =>
 SemH PG (mapUpdS T_map_uint64_string t4 v64 v67) h56 fun v68 h69 =>
 (carracklaw12_ClientKeeps_k70 R n13 t0 t3 t4 t5 h69))
 (carracklaw12_ClientKeeps_k70 R n13 t0 t3 t4 t5 h56))))
 (R (Value.bool true) h0)
def carracklaw12_ClientKeeps (t0 : Value) (h0 : PH) (R : Value → PH → Prop) : Prop :=
 CallsH PG id_carracklaw12_awake #[] h0 fun v1 h2 =>
 popO (SemP PG (Op.unary UnOp.not v1)) fun v3 =>
 condV v3
 (R (Value.bool false) h2)
 (popO (SemP PG (Builtin.len_ #[T_sl_carrackref12_Known] T_int #[t0])) fun v4 =>
 popO (SemP PG (binOp BinOp.gtr T_int v4 (Value.int IntKind.i64 100))) fun v5 =>
 condV v5
 (R (Value.bool true) h2)
 (CallsH PG id_client_New #[] h2 fun v6 h7 =>
 popO (SemE PG h7 (binS BinOp.eql T_p_client_Client (.tmp 21) (.const (Value.pointer none)) v6 (Value.pointer none))) fun v8 =>
 condV v8
 (R (Value.bool false) h7)
 (popO (SemA PG (Instr.makeMap T_map_uint64_string none)) fun x10 => ∀ r9, h7 r9 = none → popO (SemP PG (x10.2 r9)) fun v11 => bindH (PH.set h7 r9 x10.1) fun h12 =>
 LoopL [0, 3, 4, 5] (fun n13 ρ h => carracklaw12_ClientKeeps_b14 R n13 (ρ 0) (ρ 3) (ρ 4) (ρ 5) h) [t0, v6, v11, (Value.int IntKind.i64 0)] h12)))
def carracklaw12_ClientKeeps.ann : Ann := { b := fun i => match i with | 12 => #[0, 0, 0, 6, 14, 30, 0, 0, 192, 448, 960, 2047, 4095] | 17 => #[0, 0, 0, 6, 14, 30, 0, 0, 192, 448, 960, 2047] | 19 => #[0, 1, 0, 4, 15, 31, 63, 127, 255, 511, 1023, 2047, 1023, 1023, 9215, 25599, 62463, 127999, 262143, 524287, 1048575] | 26 => #[0, 1, 3, 7, 7, 7, 7, 103, 231, 503, 1023, 2047, 4095, 8191, 16383, 32767, 65535, 131071, 131071, 131071, 917503, 1966079, 4194303, 8388607, 16777215, 33554431, 67108863, 134217727, 268435455, 268435455, 1073741823, 2147483647, 268435455, 268435455, 8858370047, 30333206527, 64692944895, 137438953471, 274877906943, 549755813887] | _ => #[], ord := fun i => match i with | 12 => [0, 1, 2, 3, 4, 5, 6, 7, 8, 9, 10, 11, 12] | 17 => [0, 1, 2, 3, 4, 5, 6, 7, 8, 9, 10, 11] | 19 => [0, 1, 2, 3, 4, 5, 6, 7, 8, 9, 10, 12, 13, 14, 15, 16, 17, 11, 18, 19, 20] | 26 => [0, 1, 2, 3, 4, 5, 6, 7, 8, 9, 10, 11, 12, 13, 14, 15, 16, 17, 18, 19, 20, 21, 22, 23, 24, 25, 26, 27, 28, 29, 30, 31, 32, 33, 34, 35, 36, 37, 38, 39] | _ => [], keep := fun i => match i with | 10 => [0, 3, 4, 5] | 22 => [0, 3, 4, 5, 9, 10] | _ => [] }
theorem carracklaw12_ClientKeeps.eq (t0 : Value) (h0 : PH) (R : Value → PH → Prop) : codeH PG carracklaw12_ClientKeeps.ann (bodyOf Try.f9) (endH PG Try.f9 R) (fun t => (#[t0] : Array Value).getD t undef) h0 = carracklaw12_ClientKeeps t0 h0 R := by kernel_rfl
theorem carracklaw12_ClientKeeps.call {t0 : Value} {h0 : PH} {R : Value → PH → Prop} (H : carracklaw12_ClientKeeps t0 h0 R) : CallsH PG id_carracklaw12_ClientKeeps #[t0] h0 R :=
  callsH_by carracklaw12_ClientKeeps.ann mix Try.func9 (by kernel_rfl) (by kernel_rfl) (by kernel_rfl) (by simp [Try.ntmps9]) (carracklaw12_ClientKeeps.eq t0 h0 R) H

def carracklaw12_ClientOrder_b69 (R : Value → PH → Prop) (n68 : List Value → PH → Prop) (t0 : Value) (t1 : Value) (t2 : Value) (t7 : Value) (t8 : Value) (t11 : Value) (h0 : PH) : Prop :=
 popO (SemP PG (Builtin.len_ #[T_sl_carrackref12_Known] T_int #[t0])) fun v70 =>
 popO (SemP PG (binOp BinOp.lss T_int t11 v70)) fun v71 =>
 condV v71
 (popO (SemP PG (binOp BinOp.add T_int t11 t1)) fun v72 =>
 popO (SemP PG (Builtin.len_ #[T_sl_carrackref12_Known] T_int #[t0])) fun v73 =>
 popO (SemP PG (binOp BinOp.rem T_int v72 v73)) fun v74 =>
 popO (SemP PG (Instr.indexAt T_sl_carrackref12_Known t0 v74)) fun v75 =>
 popO (SemE PG h0 (Instr.loadAt T_carrackref12_Known v75)) fun v76 =>
 ∀ r77, h0 r77 = none → bindH (PH.set h0 r77 (.cells (zcells PG T_carrackref12_Known) T_carrackref12_Known)) fun h78 =>
 SemH PG (storeS T_carrackref12_Known (Value.pointer (some ⟨r77, 0, none⟩)) v76) h78 fun v79 h80 =>
 popO (SemP PG (Instr.fieldAt T_carrackref12_Known (Value.pointer (some ⟨r77, 0, none⟩)) 0)) fun v81 =>
 popO (SemE PG h80 (Instr.loadAt T_uint64 v81)) fun v82 =>
 popO (SemP PG (Instr.fieldAt T_carrackref12_Known (Value.pointer (some ⟨r77, 0, none⟩)) 1)) fun v83 =>
 popO (SemE PG h80 (Instr.loadAt T_string v83)) fun v84 =>
 CallsH PG id_client_Client_Set #[t8, v82, v84] h80 fun v85 h86 =>
 popO (SemP PG (binOp BinOp.add T_int t11 (Value.int IntKind.i64 1))) fun v87 =>
 n68 [t0, t1, t2, t7, t8, v87] h86)
 (CallsH PG id_client_Client_From #[t7, t2] h0 fun v88 h89 =>
 popO (SemP PG (Instr.extract v88 0)) fun v90 =>
 popO (SemP PG (Instr.extract v88 1)) fun v91 =>
 CallsH PG id_client_Client_From #[t8, t2] h89 fun v92 h93 =>
 popO (SemP PG (Instr.extract v92 0)) fun v94 =>
 popO (SemP PG (Instr.extract v92 1)) fun v95 =>
 CallsH PG id_client_Client_Root #[t7, t2] h93 fun v96 h97 =>
 popO (SemP PG (Instr.extract v96 0)) fun v98 =>
 popO (SemP PG (Instr.extract v96 1)) fun v99 =>
 CallsH PG id_client_Client_Root #[t8, t2] h97 fun v100 h101 =>
 popO (SemP PG (Instr.extract v100 0)) fun v102 =>
 popO (SemP PG (Instr.extract v100 1)) fun v103 =>
 CallsH PG id_client_Client_Heights #[t7] h101 fun v104 h105 =>
 CallsH PG id_client_Client_Heights #[t8] h105 fun v106 h107 =>
 CallsH PG id_carracklaw12_numbers #[v104, v106] h107 fun v108 h109 =>
 gopV (yV v108) true (fun k112 => k112 v90 h109) h109 fun v110 h111 =>
 gopV (yV v108) true (fun k115 => k115 v94 h111) h111 fun v113 h114 =>
 gopV (yV v108) true (fun k118 => popO (SemE PG h114 (binS BinOp.eql T_uint64 (.tmp 127) (.tmp 128) v110 v113)) fun v119 => k118 v119 h114) h114 fun v116 h117 =>
 popO (pickV v108 v116 (Value.bool false)) fun v120 =>
 gopV (yV v120) true (fun k123 => k123 v91 h117) h117 fun v121 h122 =>
 gopV (yV v120) true (fun k126 => k126 v95 h122) h122 fun v124 h125 =>
 gopV (yV v120) true (fun k129 => popO (SemE PG h125 (binS BinOp.eql T_bool (.tmp 132) (.tmp 133) v121 v124)) fun v130 => k129 v130 h125) h125 fun v127 h128 =>
 popO (pickV v120 v127 (Value.bool false)) fun v131 =>
 gopV (yV v131) true (fun k134 => k134 v98 h128) h128 fun v132 h133 =>
 gopV (yV v131) true (fun k137 => k137 v102 h133) h133 fun v135 h136 =>
 gopV (yV v131) true (fun k140 => popO (SemE PG h136 (binS BinOp.eql T_string (.tmp 137) (.tmp 138) v132 v135)) fun v141 => k140 v141 h136) h136 fun v138 h139 =>
 popO (pickV v131 v138 (Value.bool false)) fun v142 =>
 gopV (yV v142) true (fun k145 => k145 v99 h139) h139 fun v143 h144 =>
 gopV (yV v142) true (fun k148 => k148 v103 h144) h144 fun v146 h147 =>
 gopV (yV v142) true (fun k151 => popO (SemE PG h147 (binS BinOp.eql T_bool (.tmp 142) (.tmp 143) v143 v146)) fun v152 => k151 v152 h147) h147 fun v149 h150 =>
 popO (pickV v142 v149 (Value.bool false)) fun v153 =>
 gopV (yV v153) true (fun k156 => k156 t7 h150) h150 fun v154 h155 =>
 gopV (yV v153) true (fun k159 => CallsH PG id_client_Client_Latest #[v154] h155 fun v160 h161 => k159 v160 h161) h155 fun v157 h158 =>
 gopV (yV v153) true (fun k164 => k164 t8 h158) h158 fun v162 h163 =>
 gopV (yV v153) true (fun k167 => CallsH PG id_client_Client_Latest #[v162] h163 fun v168 h169 => k167 v168 h169) h163 fun v165 h166 =>
 gopV (yV v153) true (fun k172 => popO (SemE PG h166 (binS BinOp.eql T_uint64 (.tmp 148) (.tmp 150) v157 v165)) fun v173 => k172 v173 h166) h166 fun v170 h171 =>
 popO (pickV v153 v170 (Value.bool false)) fun v174 =>
 R v174 h171)
def carracklaw12_ClientOrder_b47 (R : Value → PH → Prop) (n46 : List Value → PH → Prop) (t0 : Value) (t1 : Value) (t2 : Value) (t7 : Value) (t8 : Value) (t9 : Value) (t10 : Value) (h0 : PH) : Prop :=
 popO (SemP PG (Builtin.len_ #[T_sl_carrackref12_Known] T_int #[t0])) fun v48 =>
 popO (SemP PG (binOp BinOp.lss T_int t10 v48)) fun v49 =>
 condV v49
 (popO (SemP PG (Instr.indexAt T_sl_carrackref12_Known t0 t10)) fun v50 =>
 popO (SemP PG (Instr.fieldAt T_carrackref12_Known v50 0)) fun v51 =>
 popO (SemE PG h0 (Instr.loadAt T_uint64 v51)) fun v52 =>
 popO (SemE PG h0 (Instr.lookup T_map_uint64_bool t9 v52 false)) fun v53 =>
 condV v53
 (R (Value.bool true) h0)
 (popO (SemP PG (Instr.indexAt T_sl_carrackref12_Known t0 t10)) fun v54 =>
 popO (SemP PG (Instr.fieldAt T_carrackref12_Known v54 0)) fun v55 =>
 popO (SemE PG h0 (Instr.loadAt T_uint64 v55)) fun v56 =>
 SemH PG (mapUpdS T_map_uint64_bool t9 v56 (Value.bool true)) h0 fun v57 h58 =>
 popO (SemP PG (Instr.indexAt T_sl_carrackref12_Known t0 t10)) fun v59 =>
 popO (SemP PG (Instr.fieldAt T_carrackref12_Known v59 0)) fun v60 =>
 popO (SemE PG h58 (Instr.loadAt T_uint64 v60)) fun v61 =>
 popO (SemP PG (Instr.indexAt T_sl_carrackref12_Known t0 t10)) fun v62 =>
 popO (SemP PG (Instr.fieldAt T_carrackref12_Known v62 1)) fun v63 =>
 popO (SemE PG h58 (Instr.loadAt T_string v63)) fun v64 =>
 CallsH PG id_client_Client_Set #[t7, v61, v64] h58 fun v65 h66 =>
 (popO (SemP PG (binOp BinOp.add T_int t10 (Value.int IntKind.i64 1))) fun v67 =>
 n46 [t0, t1, t2, t7, t8, t9, v67] h66)))
 (LoopL [0, 1, 2, 7, 8, 11] (fun n68 ρ h => carracklaw12_ClientOrder_b69 R n68 (ρ 0) (ρ 1) (ρ 2) (ρ 7) (ρ 8) (ρ 11) h) [t0, t1, t2, t7, t8, (Value.int IntKind.i64 0)] h0)
def carracklaw12_ClientOrder (t0 : Value) (t1 : Value) (t2 : Value) (h0 : PH) (R : Value → PH → Prop) : Prop :=
 CallsH PG id_carracklaw12_awake #[] h0 fun v1 h2 =>
 popO (SemP PG (Op.unary UnOp.not v1)) fun v3 =>
 condV v3
 (R (Value.bool false) h2)
 (popO (SemP PG (Builtin.len_ #[T_sl_carrackref12_Known] T_int #[t0])) fun v4 =>
 popO (SemP PG (binOp BinOp.gtr T_int v4 (Value.int IntKind.i64 100))) fun v5 =>
 gopV (yV v5) false (fun k8 => k8 t1 h2) h2 fun v6 h7 =>
 gopV (yV v5) false (fun k11 => popO (SemP PG (binOp BinOp.lss T_int v6 (Value.int IntKind.i64 0))) fun v12 => k11 v12 h7) h7 fun v9 h10 =>
 popO (pickV v5 (Value.bool true) v9) fun v13 =>
 gopV (yV v13) false (fun k16 => k16 t1 h10) h10 fun v14 h15 =>
 gopV (yV v13) false (fun k19 => k19 t0 h15) h15 fun v17 h18 =>
 gopV (yV v13) false (fun k22 => popO (SemP PG (Builtin.len_ #[T_sl_carrackref12_Known] T_int #[v17])) fun v23 => k22 v23 h18) h18 fun v20 h21 =>
 gopV (yV v13) false (fun k26 => popO (SemP PG (binOp BinOp.gtr T_int v14 v20)) fun v27 => k26 v27 h21) h21 fun v24 h25 =>
 popO (pickV v13 (Value.bool true) v24) fun v28 =>
 condV v28
 (R (Value.bool true) h25)
 (CallsH PG id_client_New #[] h25 fun v29 h30 =>
 CallsH PG id_client_New #[] h30 fun v31 h32 =>
 popO (SemE PG h32 (binS BinOp.eql T_p_client_Client (.tmp 38) (.const (Value.pointer none)) v29 (Value.pointer none))) fun v33 =>
 gopV (yV v33) false (fun k36 => k36 v31 h32) h32 fun v34 h35 =>
 gopV (yV v33) false (fun k39 => popO (SemE PG h35 (binS BinOp.eql T_p_client_Client (.tmp 41) (.const (Value.pointer none)) v34 (Value.pointer none))) fun v40 => k39 v40 h35) h35 fun v37 h38 =>
 popO (pickV v33 (Value.bool true) v37) fun v41 =>
 condV v41
 (R (Value.bool false) h38)
 (popO (SemA PG (Instr.makeMap T_map_uint64_bool none)) fun x43 => ∀ r42, h38 r42 = none → popO (SemP PG (x43.2 r42)) fun v44 => bindH (PH.set h38 r42 x43.1) fun h45 =>
 LoopL [0, 1, 2, 7, 8, 9, 10] (fun n46 ρ h => carracklaw12_ClientOrder_b47 R n46 (ρ 0) (ρ 1) (ρ 2) (ρ 7) (ρ 8) (ρ 9) (ρ 10) h) [t0, t1, t2, v29, v31, v44, (Value.int IntKind.i64 0)] h45)))
def carracklaw12_ClientOrder.ann : Ann := { b := fun i => match i with | 15 => #[0, 0, 0, 6, 14, 30, 0, 0, 192, 448, 960, 2047] | _ => #[], ord := fun i => match i with | 15 => [0, 1, 2, 3, 4, 5, 6, 7, 8, 9, 10, 11] | _ => [], keep := fun i => match i with | 10 => [0, 1, 2, 7, 8, 9, 10] | 17 => [0, 1, 2, 7, 8, 11] | _ => [] }
theorem carracklaw12_ClientOrder.eq (t0 : Value) (t1 : Value) (t2 : Value) (h0 : PH) (R : Value → PH → Prop) : codeH PG carracklaw12_ClientOrder.ann (bodyOf Try.f10) (endH PG Try.f10 R) (fun t => (#[t0, t1, t2] : Array Value).getD t undef) h0 = carracklaw12_ClientOrder t0 t1 t2 h0 R := by kernel_rfl
theorem carracklaw12_ClientOrder.call {t0 : Value} {t1 : Value} {t2 : Value} {h0 : PH} {R : Value → PH → Prop} (H : carracklaw12_ClientOrder t0 t1 t2 h0 R) : CallsH PG id_carracklaw12_ClientOrder #[t0, t1, t2] h0 R :=
  callsH_by carracklaw12_ClientOrder.ann mix Try.func10 (by kernel_rfl) (by kernel_rfl) (by kernel_rfl) (by simp [Try.ntmps10]) (carracklaw12_ClientOrder.eq t0 t1 t2 h0 R) H

def carracklaw12_ClientFrom_b29 (R : Value → PH → Prop) (n28 : List Value → PH → Prop) (t1 : Value) (t5 : Value) (t7 : Value) (t8 : Value) (t9 : Value) (t10 : Value) (h0 : PH) : Prop :=
 popO (SemP PG (Builtin.len_ #[T_sl_uint64] T_int #[t9])) fun v30 =>
 popO (SemP PG (binOp BinOp.lss T_int t10 v30)) fun v31 =>
 condV v31
 (popO (SemP PG (Instr.indexAt T_sl_uint64 t9 t10)) fun v32 =>
 popO (SemE PG h0 (Instr.loadAt T_uint64 v32)) fun v33 =>
 popO (SemP PG (binOp BinOp.geq T_uint64 v33 t1)) fun v34 =>
 gopV (yV v34) true (fun k37 => k37 t8 h0) h0 fun v35 h36 =>
 gopV (yV v34) true (fun k40 => popO (SemP PG (Op.unary UnOp.not v35)) fun v41 => k40 v41 h36) h36 fun v38 h39 =>
 gopV (yV v34) true (fun k44 => k44 v38 h39) h39 fun v42 h43 =>
 gopV (yV v42) false (fun k47 => k47 t9 h43) h43 fun v45 h46 =>
 gopV (yV v42) false (fun k50 => k50 t10 h46) h46 fun v48 h49 =>
 gopV (yV v42) false (fun k53 => popO (SemP PG (Instr.indexAt T_sl_uint64 v45 v48)) fun v54 => k53 v54 h49) h49 fun v51 h52 =>
 gopV (yV v42) false (fun k57 => popO (SemE PG h52 (Instr.loadAt T_uint64 v51)) fun v58 => k57 v58 h52) h52 fun v55 h56 =>
 gopV (yV v42) false (fun k61 => k61 t7 h56) h56 fun v59 h60 =>
 gopV (yV v42) false (fun k64 => popO (SemP PG (binOp BinOp.lss T_uint64 v55 v59)) fun v65 => k64 v65 h60) h60 fun v62 h63 =>
 gopV (yV v34) true (fun k68 => popO (pickV v42 (Value.bool true) v62) fun v69 => k68 v69 h63) h63 fun v66 h67 =>
 popO (pickV v34 v66 (Value.bool false)) fun v70 =>
 condV v70
 (R (Value.bool false) h67)
 (popO (SemP PG (binOp BinOp.add T_int t10 (Value.int IntKind.i64 1))) fun v71 =>
 n28 [t1, t5, t7, t8, t9, v71] h67))
 (CallsH PG id_client_Client_Root #[t5, t7] h0 fun v72 h73 =>
 popO (SemP PG (Instr.extract v72 0)) fun v74 =>
 popO (SemP PG (Instr.extract v72 1)) fun v75 =>
 popO (SemP PG (Op.unary UnOp.not t8)) fun v76 =>
 gopV (yV v76) true (fun k79 => k79 t7 h73) h73 fun v77 h78 =>
 gopV (yV v76) true (fun k82 => popO (SemE PG h78 (binS BinOp.eql T_uint64 (.tmp 80) (.const (Value.int IntKind.u64 0)) v77 (Value.int IntKind.u64 0))) fun v83 => k82 v83 h78) h78 fun v80 h81 =>
 popO (pickV v76 v80 (Value.bool false)) fun v84 =>
 gopV (yV v84) false (fun k87 => k87 t8 h81) h81 fun v85 h86 =>
 gopV (yV v84) false (fun k90 => k90 v85 h86) h86 fun v88 h89 =>
 gopV (yV v88) true (fun k93 => k93 v75 h89) h89 fun v91 h92 =>
 gopV (yV v84) false (fun k96 => popO (pickV v88 v91 (Value.bool false)) fun v97 => k96 v97 h92) h92 fun v94 h95 =>
 gopV (yV v84) false (fun k100 => k100 v94 h95) h95 fun v98 h99 =>
 gopV (yV v98) true (fun k103 => k103 t7 h99) h99 fun v101 h102 =>
 gopV (yV v98) true (fun k106 => k106 t1 h102) h102 fun v104 h105 =>
 gopV (yV v98) true (fun k109 => popO (SemP PG (binOp BinOp.geq T_uint64 v101 v104)) fun v110 => k109 v110 h105) h105 fun v107 h108 =>
 gopV (yV v84) false (fun k113 => popO (pickV v98 v107 (Value.bool false)) fun v114 => k113 v114 h108) h108 fun v111 h112 =>
 popO (pickV v84 (Value.bool true) v111) fun v115 =>
 R v115 h112)
def carracklaw12_ClientFrom_b10 (R : Value → PH → Prop) (n9 : List Value → PH → Prop) (t0 : Value) (t1 : Value) (t5 : Value) (t6 : Value) (h0 : PH) : Prop :=
 popO (SemP PG (Builtin.len_ #[T_sl_carrackref12_Known] T_int #[t0])) fun v11 =>
 popO (SemP PG (binOp BinOp.lss T_int t6 v11)) fun v12 =>
 condV v12
 (popO (SemP PG (Instr.indexAt T_sl_carrackref12_Known t0 t6)) fun v13 =>
 popO (SemP PG (Instr.fieldAt T_carrackref12_Known v13 0)) fun v14 =>
 popO (SemE PG h0 (Instr.loadAt T_uint64 v14)) fun v15 =>
 popO (SemP PG (Instr.indexAt T_sl_carrackref12_Known t0 t6)) fun v16 =>
 popO (SemP PG (Instr.fieldAt T_carrackref12_Known v16 1)) fun v17 =>
 popO (SemE PG h0 (Instr.loadAt T_string v17)) fun v18 =>
 CallsH PG id_client_Client_Set #[t5, v15, v18] h0 fun v19 h20 =>
 (popO (SemP PG (binOp BinOp.add T_int t6 (Value.int IntKind.i64 1))) fun v21 =>
 n9 [t0, t1, t5, v21] h20))
 (CallsH PG id_client_Client_From #[t5, t1] h0 fun v22 h23 =>
 popO (SemP PG (Instr.extract v22 0)) fun v24 =>
 popO (SemP PG (Instr.extract v22 1)) fun v25 =>
 CallsH PG id_client_Client_Heights #[t5] h23 fun v26 h27 =>
 LoopL [1, 5, 7, 8, 9, 10] (fun n28 ρ h => carracklaw12_ClientFrom_b29 R n28 (ρ 1) (ρ 5) (ρ 7) (ρ 8) (ρ 9) (ρ 10) h) [t1, t5, v24, v25, v26, (Value.int IntKind.i64 0)] h27)
def carracklaw12_ClientFrom (t0 : Value) (t1 : Value) (h0 : PH) (R : Value → PH → Prop) : Prop :=
 CallsH PG id_carracklaw12_awake #[] h0 fun v1 h2 =>
 popO (SemP PG (Op.unary UnOp.not v1)) fun v3 =>
 condV v3
 (R (Value.bool false) h2)
 (popO (SemP PG (Builtin.len_ #[T_sl_carrackref12_Known] T_int #[t0])) fun v4 =>
 popO (SemP PG (binOp BinOp.gtr T_int v4 (Value.int IntKind.i64 100))) fun v5 =>
 condV v5
 (R (Value.bool true) h2)
 (CallsH PG id_client_New #[] h2 fun v6 h7 =>
 popO (SemE PG h7 (binS BinOp.eql T_p_client_Client (.tmp 19) (.const (Value.pointer none)) v6 (Value.pointer none))) fun v8 =>
 condV v8
 (R (Value.bool false) h7)
 (LoopL [0, 1, 5, 6] (fun n9 ρ h => carracklaw12_ClientFrom_b10 R n9 (ρ 0) (ρ 1) (ρ 5) (ρ 6) h) [t0, t1, v6, (Value.int IntKind.i64 0)] h7)))
def carracklaw12_ClientFrom.ann : Ann := { b := fun i => match i with | 11 => #[0, 0, 0, 6, 14, 30, 0, 0, 192, 448, 960, 2047] | _ => #[], ord := fun i => match i with | 11 => [0, 1, 2, 3, 4, 5, 6, 7, 8, 9, 10, 11] | _ => [], keep := fun i => match i with | 9 => [0, 1, 5, 6] | 15 => [1, 5, 7, 8, 9, 10] | _ => [] }
theorem carracklaw12_ClientFrom.eq (t0 : Value) (t1 : Value) (h0 : PH) (R : Value → PH → Prop) : codeH PG carracklaw12_ClientFrom.ann (bodyOf Try.f11) (endH PG Try.f11 R) (fun t => (#[t0, t1] : Array Value).getD t undef) h0 = carracklaw12_ClientFrom t0 t1 h0 R := by kernel_rfl
theorem carracklaw12_ClientFrom.call {t0 : Value} {t1 : Value} {h0 : PH} {R : Value → PH → Prop} (H : carracklaw12_ClientFrom t0 t1 h0 R) : CallsH PG id_carracklaw12_ClientFrom #[t0, t1] h0 R :=
  callsH_by carracklaw12_ClientFrom.ann mix Try.func11 (by kernel_rfl) (by kernel_rfl) (by kernel_rfl) (by simp [Try.ntmps11]) (carracklaw12_ClientFrom.eq t0 t1 h0 R) H

end Go.Proofs.Ytbloalappckjhaa
