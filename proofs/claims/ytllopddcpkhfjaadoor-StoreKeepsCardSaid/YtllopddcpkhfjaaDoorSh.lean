/- What the functions of this program do on a part of memory, by program (prt.py) out of Lean's own print of them; for each the theorem that its code is that. -/
import Derived.Test.YtllopddcpkhfjaaDoorTy
set_option maxRecDepth 100000
set_option linter.unusedVariables false
namespace Go.Proofs.YtllopddcpkhfjaaDoor
open Go
def lit0 : Array UInt8 := ((((32 :: 32 :: 32 :: 32 :: 32 :: 32 :: 32 :: 32 :: 32 :: 32 :: 32 :: 32 :: 32 :: 32 :: 32 :: 32 :: 32 :: 32 :: 32 :: 32 :: 32 :: 32 :: 32 :: 32 :: 32 :: 32 :: 32 :: 32 :: 32 :: 32 :: 32 :: 32 :: 32 :: 32 :: 32 :: 32 :: 32 :: 32 :: 32 :: 32 :: 32 :: 32 :: 32 :: 32 :: 32 :: 32 :: 32 :: 32 :: 32 :: 32 :: 32 :: 32 :: 32 :: 32 :: 32 :: 32 :: 32 :: 32 :: 32 :: 32 :: 32 :: 32 :: 32 :: 32 :: [] : List UInt8).append) (32 :: 32 :: 32 :: 32 :: 32 :: 32 :: 32 :: 32 :: 32 :: 32 :: 32 :: 32 :: 32 :: 32 :: 32 :: 32 :: 32 :: 32 :: 32 :: 32 :: 32 :: 32 :: 32 :: 32 :: 32 :: 32 :: 32 :: 32 :: 32 :: 32 :: 32 :: 32 :: 32 :: 32 :: 32 :: 32 :: 32 :: 32 :: 32 :: 32 :: 32 :: 32 :: 32 :: 32 :: 32 :: 32 :: 32 :: 32 :: 32 :: 32 :: 32 :: 32 :: 32 :: 32 :: 32 :: 32 :: 32 :: 32 :: 32 :: 32 :: 32 :: 32 :: 32 :: 32 :: [] : List UInt8)).toArray)
def lit1 : Array UInt8 := ((((45 :: 45 :: 45 :: 45 :: 45 :: 45 :: 45 :: 45 :: 45 :: 45 :: 45 :: 45 :: 45 :: 45 :: 45 :: 45 :: 45 :: 45 :: 45 :: 45 :: 45 :: 45 :: 45 :: 45 :: 45 :: 45 :: 45 :: 45 :: 45 :: 45 :: 45 :: 45 :: 45 :: 45 :: 45 :: 45 :: 45 :: 45 :: 45 :: 45 :: 45 :: 45 :: 45 :: 45 :: 45 :: 45 :: 45 :: 45 :: 45 :: 45 :: 45 :: 45 :: 45 :: 45 :: 45 :: 45 :: 45 :: 45 :: 45 :: 45 :: 45 :: 45 :: 45 :: 45 :: [] : List UInt8).append) (45 :: 45 :: 45 :: 45 :: 45 :: 45 :: 45 :: 45 :: 45 :: 45 :: 45 :: 45 :: 45 :: 45 :: 45 :: 45 :: 45 :: 45 :: 45 :: 45 :: 45 :: 45 :: 45 :: 45 :: 45 :: 45 :: 45 :: 45 :: 45 :: 45 :: 45 :: 45 :: 45 :: 45 :: 45 :: 45 :: 45 :: 45 :: 45 :: 45 :: 45 :: 45 :: 45 :: 45 :: 45 :: 45 :: 45 :: 45 :: 45 :: 45 :: 45 :: 45 :: 45 :: 45 :: 45 :: 45 :: 45 :: 45 :: 45 :: 45 :: 45 :: 45 :: 45 :: 45 :: [] : List UInt8)).toArray)
def lit2 : Array UInt8 := ((((61 :: 61 :: 61 :: 61 :: 61 :: 61 :: 61 :: 61 :: 61 :: 61 :: 61 :: 61 :: 61 :: 61 :: 61 :: 61 :: 61 :: 61 :: 61 :: 61 :: 61 :: 61 :: 61 :: 61 :: 61 :: 61 :: 61 :: 61 :: 61 :: 61 :: 61 :: 61 :: 61 :: 61 :: 61 :: 61 :: 61 :: 61 :: 61 :: 61 :: 61 :: 61 :: 61 :: 61 :: 61 :: 61 :: 61 :: 61 :: 61 :: 61 :: 61 :: 61 :: 61 :: 61 :: 61 :: 61 :: 61 :: 61 :: 61 :: 61 :: 61 :: 61 :: 61 :: 61 :: [] : List UInt8).append) (61 :: 61 :: 61 :: 61 :: 61 :: 61 :: 61 :: 61 :: 61 :: 61 :: 61 :: 61 :: 61 :: 61 :: 61 :: 61 :: 61 :: 61 :: 61 :: 61 :: 61 :: 61 :: 61 :: 61 :: 61 :: 61 :: 61 :: 61 :: 61 :: 61 :: 61 :: 61 :: 61 :: 61 :: 61 :: 61 :: 61 :: 61 :: 61 :: 61 :: 61 :: 61 :: 61 :: 61 :: 61 :: 61 :: 61 :: 61 :: 61 :: 61 :: 61 :: 61 :: 61 :: 61 :: 61 :: 61 :: 61 :: 61 :: 61 :: 61 :: 61 :: 61 :: 61 :: 61 :: [] : List UInt8)).toArray)
def lit3 : Array UInt8 := ((((((0 :: 1 :: 2 :: 2 :: 3 :: 3 :: 3 :: 3 :: 4 :: 4 :: 4 :: 4 :: 4 :: 4 :: 4 :: 4 :: 5 :: 5 :: 5 :: 5 :: 5 :: 5 :: 5 :: 5 :: 5 :: 5 :: 5 :: 5 :: 5 :: 5 :: 5 :: 5 :: 6 :: 6 :: 6 :: 6 :: 6 :: 6 :: 6 :: 6 :: 6 :: 6 :: 6 :: 6 :: 6 :: 6 :: 6 :: 6 :: 6 :: 6 :: 6 :: 6 :: 6 :: 6 :: 6 :: 6 :: 6 :: 6 :: 6 :: 6 :: 6 :: 6 :: 6 :: 6 :: [] : List UInt8).append) (7 :: 7 :: 7 :: 7 :: 7 :: 7 :: 7 :: 7 :: 7 :: 7 :: 7 :: 7 :: 7 :: 7 :: 7 :: 7 :: 7 :: 7 :: 7 :: 7 :: 7 :: 7 :: 7 :: 7 :: 7 :: 7 :: 7 :: 7 :: 7 :: 7 :: 7 :: 7 :: 7 :: 7 :: 7 :: 7 :: 7 :: 7 :: 7 :: 7 :: 7 :: 7 :: 7 :: 7 :: 7 :: 7 :: 7 :: 7 :: 7 :: 7 :: 7 :: 7 :: 7 :: 7 :: 7 :: 7 :: 7 :: 7 :: 7 :: 7 :: 7 :: 7 :: 7 :: 7 :: [] : List UInt8)).append) (((8 :: 8 :: 8 :: 8 :: 8 :: 8 :: 8 :: 8 :: 8 :: 8 :: 8 :: 8 :: 8 :: 8 :: 8 :: 8 :: 8 :: 8 :: 8 :: 8 :: 8 :: 8 :: 8 :: 8 :: 8 :: 8 :: 8 :: 8 :: 8 :: 8 :: 8 :: 8 :: 8 :: 8 :: 8 :: 8 :: 8 :: 8 :: 8 :: 8 :: 8 :: 8 :: 8 :: 8 :: 8 :: 8 :: 8 :: 8 :: 8 :: 8 :: 8 :: 8 :: 8 :: 8 :: 8 :: 8 :: 8 :: 8 :: 8 :: 8 :: 8 :: 8 :: 8 :: 8 :: [] : List UInt8).append) (8 :: 8 :: 8 :: 8 :: 8 :: 8 :: 8 :: 8 :: 8 :: 8 :: 8 :: 8 :: 8 :: 8 :: 8 :: 8 :: 8 :: 8 :: 8 :: 8 :: 8 :: 8 :: 8 :: 8 :: 8 :: 8 :: 8 :: 8 :: 8 :: 8 :: 8 :: 8 :: 8 :: 8 :: 8 :: 8 :: 8 :: 8 :: 8 :: 8 :: 8 :: 8 :: 8 :: 8 :: 8 :: 8 :: 8 :: 8 :: 8 :: 8 :: 8 :: 8 :: 8 :: 8 :: 8 :: 8 :: 8 :: 8 :: 8 :: 8 :: 8 :: 8 :: 8 :: 8 :: [] : List UInt8))).toArray)
def carracklaw11_StoreBlocks_k27 (R : Value → PH → Prop) (n12 : List Value → PH → Prop) (t0 : Value) (t1 : Value) (t2 : Value) (t7 : Value) (t8 : Value) (t9 : Value) (t10 : Value) (h0 : PH) : Prop :=
 popO (SemP PG (binOp BinOp.add T_int t10 (Value.int IntKind.i64 1))) fun v28 =>
 n12 [t0, t1, t2, t7, t8, t9, v28] h0
def carracklaw11_StoreBlocks_k26 (R : Value → PH → Prop) (n12 : List Value → PH → Prop) (t0 : Value) (t1 : Value) (t2 : Value) (t7 : Value) (t8 : Value) (t9 : Value) (t10 : Value) (h0 : PH) : Prop :=
 carracklaw11_StoreBlocks_k27 R n12 t0 t1 t2 t7 t8 t9 t10 h0
def carracklaw11_StoreBlocks_b13 (R : Value → PH → Prop) (n12 : List Value → PH → Prop) (t0 : Value) (t1 : Value) (t2 : Value) (t7 : Value) (t8 : Value) (t9 : Value) (t10 : Value) (h0 : PH) : Prop :=
 popO (SemP PG (Builtin.len_ #[T_sl_carrackref11_Act] T_int #[t1])) fun v14 =>
 popO (SemP PG (binOp BinOp.lss T_int t10 v14)) fun v15 =>
 condV v15
 (CallsH PG id_store_Store_Height #[t7] h0 fun v16 h17 =>
 popO (SemP PG (Instr.indexAt T_sl_carrackref11_Act t1 t10)) fun v18 =>
 popO (SemE PG h17 (Instr.loadAt T_carrackref11_Act v18)) fun v19 =>
 CallsH PG id_carracklaw11_do #[t7, t8, v19] h17 fun v20 h21 =>
 CallsH PG id_store_Store_Height #[t7] h21 fun v22 h23 =>
 popO (SemE PG h23 (binS BinOp.neq T_uint64 (.tmp 44) (.tmp 45) v22 v16)) fun v24 =>
 condV v24
 (popO (SemP PG (binOp BinOp.add T_int t9 (Value.int IntKind.i64 1))) fun v25 =>
 carracklaw11_StoreBlocks_k26 R n12 t0 t1 t2 t7 t8 v25 t10 h23)
 (carracklaw11_StoreBlocks_k26 R n12 t0 t1 t2 t7 t8 t9 t10 h23))
 (popO (SemP PG (binOp BinOp.geq T_uint64 t2 t0)) fun v29 =>
 gopV (yV v29) true (fun k32 => k32 t2 h0) h0 fun v30 h31 =>
 gopV (yV v29) true (fun k35 => k35 t0 h31) h31 fun v33 h34 =>
 gopV (yV v29) true (fun k38 => popO (SemP PG (binOp BinOp.sub T_uint64 v30 v33)) fun v39 => k38 v39 h34) h34 fun v36 h37 =>
 gopV (yV v29) true (fun k42 => k42 t9 h37) h37 fun v40 h41 =>
 gopV (yV v29) true (fun k45 => popO (SemP PG (convert T_int T_uint64 v40)) fun v46 => k45 v46 h41) h41 fun v43 h44 =>
 gopV (yV v29) true (fun k49 => popO (SemP PG (binOp BinOp.leq T_uint64 v36 v43)) fun v50 => k49 v50 h44) h44 fun v47 h48 =>
 popO (pickV v29 v47 (Value.bool false)) fun v51 =>
 CallsH PG id_store_Store_At #[t7, t2] h48 fun v52 h53 =>
 popO (SemP PG (Instr.extract v52 0)) fun v54 =>
 popO (SemP PG (Instr.extract v52 1)) fun v55 =>
 CallsH PG id_store_Store_Root #[t7, t2] h53 fun v56 h57 =>
 popO (SemP PG (Instr.extract v56 0)) fun v58 =>
 popO (SemP PG (Instr.extract v56 1)) fun v59 =>
 CallsH PG id_store_Store_Blocks #[t7] h57 fun v60 h61 =>
 popO (SemP PG (binOp BinOp.add T_int t9 (Value.int IntKind.i64 1))) fun v62 =>
 popO (SemE PG h61 (binS BinOp.neq T_int (.tmp 73) (.tmp 75) v60 v62)) fun v63 =>
 gopV (yV v63) false (fun k66 => k66 t7 h61) h61 fun v64 h65 =>
 gopV (yV v63) false (fun k69 => CallsH PG id_store_Store_Height #[v64] h65 fun v70 h71 => k69 v70 h71) h65 fun v67 h68 =>
 gopV (yV v63) false (fun k74 => k74 t0 h68) h68 fun v72 h73 =>
 gopV (yV v63) false (fun k77 => popO (SemP PG (binOp BinOp.sub T_uint64 v67 v72)) fun v78 => k77 v78 h73) h73 fun v75 h76 =>
 gopV (yV v63) false (fun k81 => k81 t9 h76) h76 fun v79 h80 =>
 gopV (yV v63) false (fun k84 => popO (SemP PG (convert T_int T_uint64 v79)) fun v85 => k84 v85 h80) h80 fun v82 h83 =>
 gopV (yV v63) false (fun k88 => popO (SemE PG h83 (binS BinOp.neq T_uint64 (.tmp 81) (.tmp 83) v75 v82)) fun v89 => k88 v89 h83) h83 fun v86 h87 =>
 popO (pickV v63 (Value.bool true) v86) fun v90 =>
 condV v90
 (R (Value.bool false) h87)
 (popO (SemP PG (Op.unary UnOp.not v51)) fun v91 =>
 condV v91
 (popO (SemE PG h87 (binS BinOp.eql T_api_Errno (.tmp 88) (.const (Value.int IntKind.i64 3)) v55 (Value.int IntKind.i64 3))) fun v92 =>
 gopV (yV v92) true (fun k95 => k95 v59 h87) h87 fun v93 h94 =>
 gopV (yV v92) true (fun k98 => popO (SemE PG h94 (binS BinOp.eql T_api_Errno (.tmp 91) (.const (Value.int IntKind.i64 3)) v93 (Value.int IntKind.i64 3))) fun v99 => k98 v99 h94) h94 fun v96 h97 =>
 popO (pickV v92 v96 (Value.bool false)) fun v100 =>
 gopV (yV v100) true (fun k103 => k103 v54 h97) h97 fun v101 h102 =>
 gopV (yV v100) true (fun k106 => popO (SemP PG (Builtin.len_ #[T_sl_api_Pair] T_int #[v101])) fun v107 => k106 v107 h102) h102 fun v104 h105 =>
 gopV (yV v100) true (fun k110 => popO (SemE PG h105 (binS BinOp.eql T_int (.tmp 96) (.const (Value.int IntKind.i64 0)) v104 (Value.int IntKind.i64 0))) fun v111 => k110 v111 h105) h105 fun v108 h109 =>
 popO (pickV v100 v108 (Value.bool false)) fun v112 =>
 gopV (yV v112) true (fun k115 => k115 v58 h109) h109 fun v113 h114 =>
 gopV (yV v112) true (fun k118 => popO (SemE PG h114 (binS BinOp.eql T_string (.tmp 100) (.const (Value.string { data := #[] })) v113 (Value.string { data := #[] }))) fun v119 => k118 v119 h114) h114 fun v116 h117 =>
 popO (pickV v112 v116 (Value.bool false)) fun v120 =>
 R v120 h117)
 (popO (SemE PG h87 (binS BinOp.eql T_api_Errno (.tmp 103) (.const (Value.int IntKind.i64 0)) v55 (Value.int IntKind.i64 0))) fun v121 =>
 gopV (yV v121) true (fun k124 => k124 v59 h87) h87 fun v122 h123 =>
 gopV (yV v121) true (fun k127 => popO (SemE PG h123 (binS BinOp.eql T_api_Errno (.tmp 106) (.const (Value.int IntKind.i64 0)) v122 (Value.int IntKind.i64 0))) fun v128 => k127 v128 h123) h123 fun v125 h126 =>
 popO (pickV v121 v125 (Value.bool false)) fun v129 =>
 gopV (yV v129) true (fun k132 => k132 v58 h126) h126 fun v130 h131 =>
 gopV (yV v129) true (fun k135 => popO (SemP PG (Builtin.len_ #[T_string] T_int #[v130])) fun v136 => k135 v136 h131) h131 fun v133 h134 =>
 gopV (yV v129) true (fun k139 => popO (SemE PG h134 (binS BinOp.eql T_int (.tmp 111) (.const (Value.int IntKind.i64 32)) v133 (Value.int IntKind.i64 32))) fun v140 => k139 v140 h134) h134 fun v137 h138 =>
 popO (pickV v129 v137 (Value.bool false)) fun v141 =>
 R v141 h138)))
def carracklaw11_StoreBlocks (t0 : Value) (t1 : Value) (t2 : Value) (h0 : PH) (R : Value → PH → Prop) : Prop :=
 CallsH PG id_carracklaw11_awake #[] h0 fun v1 h2 =>
 popO (SemP PG (Op.unary UnOp.not v1)) fun v3 =>
 condV v3
 (R (Value.bool false) h2)
 (CallsH PG id_carracklaw11_few #[t1] h2 fun v4 h5 =>
 popO (SemP PG (Op.unary UnOp.not v4)) fun v6 =>
 condV v6
 (R (Value.bool true) h5)
 (CallsH PG id_store_New #[t0] h5 fun v7 h8 =>
 CallsH PG id_carrackref11_New #[t0] h8 fun v9 h10 =>
 popO (SemE PG h10 (binS BinOp.eql T_p_store_Store (.tmp 26) (.const (Value.pointer none)) v7 (Value.pointer none))) fun v11 =>
 condV v11
 (R (Value.bool false) h10)
 (LoopL [0, 1, 2, 7, 8, 9, 10] (fun n12 ρ h => carracklaw11_StoreBlocks_b13 R n12 (ρ 0) (ρ 1) (ρ 2) (ρ 7) (ρ 8) (ρ 9) (ρ 10) h) [t0, t1, t2, v7, v9, (Value.int IntKind.i64 0), (Value.int IntKind.i64 0)] h10)))
def carracklaw11_StoreBlocks.ann : Ann := { b := fun i => match i with  | _ => #[], ord := fun i => match i with  | _ => [], keep := fun i => match i with | 10 => [0, 1, 2, 7, 8, 9, 10] | _ => [], n := 114 }
theorem carracklaw11_StoreBlocks.eq (t0 : Value) (t1 : Value) (t2 : Value) (h0 : PH) (R : Value → PH → Prop) : codeF PG carracklaw11_StoreBlocks.ann 200 (bodyOf Tryd.f3) (endH PG Tryd.f3 R) (fun t => (#[t0, t1, t2] : Array Value).getD t undef) h0 = carracklaw11_StoreBlocks t0 t1 t2 h0 R := by kernel_rfl
theorem carracklaw11_StoreBlocks.call {t0 : Value} {t1 : Value} {t2 : Value} {h0 : PH} {R : Value → PH → Prop} (H : carracklaw11_StoreBlocks t0 t1 t2 h0 R) : CallsH PG id_carracklaw11_StoreBlocks #[t0, t1, t2] h0 R :=
  callsF_by carracklaw11_StoreBlocks.ann 200 mix Tryd.func3 (by kernel_rfl) (by kernel_rfl) (by kernel_rfl) (by kernel_rfl) (by simp [Tryd.ntmps3]) (carracklaw11_StoreBlocks.eq t0 t1 t2 h0 R) H

def carracklaw11_awake (h0 : PH) (R : Value → PH → Prop) : Prop :=
 CallsH PG id_store_New #[(Value.int IntKind.u64 5)] h0 fun v1 h2 =>
 popO (SemE PG h2 (binS BinOp.eql T_p_store_Store (.tmp 10) (.const (Value.pointer none)) v1 (Value.pointer none))) fun v3 =>
 condV v3
 (R (Value.bool false) h2)
 (CallsH PG id_store_Store_Set #[v1, (Value.string { data := #[97] }), (Value.string { data := #[49] })] h2 fun v4 h5 =>
 CallsH PG id_store_Store_Commit #[v1] h5 fun v6 h7 =>
 popO (SemP PG (Instr.extract v6 0)) fun v8 =>
 popO (SemP PG (Instr.extract v6 1)) fun v9 =>
 CallsH PG id_store_Store_At #[v1, (Value.int IntKind.u64 6)] h7 fun v10 h11 =>
 popO (SemP PG (Instr.extract v10 0)) fun v12 =>
 popO (SemP PG (Instr.extract v10 1)) fun v13 =>
 CallsH PG id_store_Store_At #[v1, (Value.int IntKind.u64 5)] h11 fun v14 h15 =>
 popO (SemP PG (Instr.extract v14 0)) fun v16 =>
 popO (SemP PG (Instr.extract v14 1)) fun v17 =>
 popO (SemE PG h15 (binS BinOp.eql T_api_Errno (.tmp 29) (.const (Value.int IntKind.i64 0)) v4 (Value.int IntKind.i64 0))) fun v18 =>
 gopV (yV v18) true (fun k21 => k21 v8 h15) h15 fun v19 h20 =>
 gopV (yV v18) true (fun k24 => popO (SemE PG h20 (binS BinOp.eql T_uint64 (.tmp 32) (.const (Value.int IntKind.u64 6)) v19 (Value.int IntKind.u64 6))) fun v25 => k24 v25 h20) h20 fun v22 h23 =>
 popO (pickV v18 v22 (Value.bool false)) fun v26 =>
 gopV (yV v26) true (fun k29 => k29 v9 h23) h23 fun v27 h28 =>
 gopV (yV v26) true (fun k32 => popO (SemE PG h28 (binS BinOp.eql T_api_Errno (.tmp 36) (.const (Value.int IntKind.i64 0)) v27 (Value.int IntKind.i64 0))) fun v33 => k32 v33 h28) h28 fun v30 h31 =>
 popO (pickV v26 v30 (Value.bool false)) fun v34 =>
 gopV (yV v34) true (fun k37 => k37 v12 h31) h31 fun v35 h36 =>
 gopV (yV v34) true (fun k40 => popO (SemP PG (Builtin.len_ #[T_sl_api_Pair] T_int #[v35])) fun v41 => k40 v41 h36) h36 fun v38 h39 =>
 gopV (yV v34) true (fun k44 => popO (SemE PG h39 (binS BinOp.eql T_int (.tmp 41) (.const (Value.int IntKind.i64 1)) v38 (Value.int IntKind.i64 1))) fun v45 => k44 v45 h39) h39 fun v42 h43 =>
 popO (pickV v34 v42 (Value.bool false)) fun v46 =>
 gopV (yV v46) true (fun k49 => k49 v13 h43) h43 fun v47 h48 =>
 gopV (yV v46) true (fun k52 => popO (SemE PG h48 (binS BinOp.eql T_api_Errno (.tmp 45) (.const (Value.int IntKind.i64 0)) v47 (Value.int IntKind.i64 0))) fun v53 => k52 v53 h48) h48 fun v50 h51 =>
 popO (pickV v46 v50 (Value.bool false)) fun v54 =>
 gopV (yV v54) true (fun k57 => k57 v16 h51) h51 fun v55 h56 =>
 gopV (yV v54) true (fun k60 => popO (SemP PG (Builtin.len_ #[T_sl_api_Pair] T_int #[v55])) fun v61 => k60 v61 h56) h56 fun v58 h59 =>
 gopV (yV v54) true (fun k64 => popO (SemE PG h59 (binS BinOp.eql T_int (.tmp 50) (.const (Value.int IntKind.i64 0)) v58 (Value.int IntKind.i64 0))) fun v65 => k64 v65 h59) h59 fun v62 h63 =>
 popO (pickV v54 v62 (Value.bool false)) fun v66 =>
 gopV (yV v66) true (fun k69 => k69 v17 h63) h63 fun v67 h68 =>
 gopV (yV v66) true (fun k72 => popO (SemE PG h68 (binS BinOp.eql T_api_Errno (.tmp 54) (.const (Value.int IntKind.i64 0)) v67 (Value.int IntKind.i64 0))) fun v73 => k72 v73 h68) h68 fun v70 h71 =>
 popO (pickV v66 v70 (Value.bool false)) fun v74 =>
 gopV (yV v74) true (fun k77 => k77 v1 h71) h71 fun v75 h76 =>
 gopV (yV v74) true (fun k80 => CallsH PG id_store_Store_Blocks #[v75] h76 fun v81 h82 => k80 v81 h82) h76 fun v78 h79 =>
 gopV (yV v74) true (fun k85 => popO (SemE PG h79 (binS BinOp.eql T_int (.tmp 59) (.const (Value.int IntKind.i64 2)) v78 (Value.int IntKind.i64 2))) fun v86 => k85 v86 h79) h79 fun v83 h84 =>
 popO (pickV v74 v83 (Value.bool false)) fun v87 =>
 R v87 h84)
def carracklaw11_awake.ann : Ann := { b := fun i => match i with  | _ => #[], ord := fun i => match i with  | _ => [], keep := fun i => match i with  | _ => [], n := 62 }
theorem carracklaw11_awake.eq (h0 : PH) (R : Value → PH → Prop) : codeF PG carracklaw11_awake.ann 200 (bodyOf Tryd.f7) (endH PG Tryd.f7 R) (fun t => (#[] : Array Value).getD t undef) h0 = carracklaw11_awake  h0 R := by kernel_rfl
theorem carracklaw11_awake.call {h0 : PH} {R : Value → PH → Prop} (H : carracklaw11_awake  h0 R) : CallsH PG id_carracklaw11_awake #[] h0 R :=
  callsF_by carracklaw11_awake.ann 200 mix Tryd.func7 (by kernel_rfl) (by kernel_rfl) (by kernel_rfl) (by kernel_rfl) (by simp [Tryd.ntmps7]) (carracklaw11_awake.eq  h0 R) H

def store_New (t0 : Value) (h0 : PH) (R : Value → PH → Prop) : Prop :=
 popO (SemA PG (Instr.makeMap T_map_string_string none)) fun x2 => ∀ r1, h0 r1 = none → popO (SemP PG (x2.2 r1)) fun v3 => bindH (PH.set h0 r1 x2.1) fun h4 =>
 CallsH PG id_merkle_Root #[(Value.slice none 0 0)] h4 fun v5 h6 =>
 popO (SemP PG (Instr.build T_store_block #[(1, v5)])) fun v7 =>
 popO (SemA PG (Instr.buildSlice T_sl_store_block 1 #[(0, v7)])) fun x9 => ∀ r8, h6 r8 = none → popO (SemP PG (x9.2 r8)) fun v10 => bindH (PH.set h6 r8 x9.1) fun h11 =>
 popO (SemP PG (Instr.build T_store_Store #[(0, v3), (1, v10), (2, t0)])) fun v12 =>
 ∀ r13, h11 r13 = none → bindH (PH.set h11 r13 (.cells (Value.cells v12) T_store_Store)) fun h14 =>
 R (Value.pointer (some ⟨r13, 0, none⟩)) h14
def store_New.ann : Ann := { b := fun i => match i with  | _ => #[], ord := fun i => match i with  | _ => [], keep := fun i => match i with  | _ => [], n := 10 }
theorem store_New.eq (t0 : Value) (h0 : PH) (R : Value → PH → Prop) : codeF PG store_New.ann 200 (bodyOf Tryd.f9) (endH PG Tryd.f9 R) (fun t => (#[t0] : Array Value).getD t undef) h0 = store_New t0 h0 R := by kernel_rfl
theorem store_New.call {t0 : Value} {h0 : PH} {R : Value → PH → Prop} (H : store_New t0 h0 R) : CallsH PG id_store_New #[t0] h0 R :=
  callsF_by store_New.ann 200 mix Tryd.func9 (by kernel_rfl) (by kernel_rfl) (by kernel_rfl) (by kernel_rfl) (by simp [Tryd.ntmps9]) (store_New.eq t0 h0 R) H

def merkle_Root (t0 : Value) (h0 : PH) (R : Value → PH → Prop) : Prop :=
 popO (SemP PG (Builtin.len_ #[T_sl_api_Pair] T_int #[t0])) fun v1 =>
 popO (SemE PG h0 (binS BinOp.eql T_int (.tmp 4) (.const (Value.int IntKind.i64 0)) v1 (Value.int IntKind.i64 0))) fun v2 =>
 condV v2
 (CallsH PG id_merkle_Top #[(Value.int IntKind.i64 0), (Value.string { data := #[] })] h0 fun v3 h4 =>
 R v3 h4)
 (popO (SemP PG (Builtin.len_ #[T_sl_api_Pair] T_int #[t0])) fun v5 =>
 CallsH PG id_merkle_digest #[t0] h0 fun v6 h7 =>
 CallsH PG id_merkle_Top #[v5, v6] h7 fun v8 h9 =>
 R v8 h9)
def merkle_Root.ann : Ann := { b := fun i => match i with  | _ => #[], ord := fun i => match i with  | _ => [], keep := fun i => match i with  | _ => [], n := 12 }
theorem merkle_Root.eq (t0 : Value) (h0 : PH) (R : Value → PH → Prop) : codeF PG merkle_Root.ann 200 (bodyOf Tryd.f22) (endH PG Tryd.f22 R) (fun t => (#[t0] : Array Value).getD t undef) h0 = merkle_Root t0 h0 R := by kernel_rfl
theorem merkle_Root.call {t0 : Value} {h0 : PH} {R : Value → PH → Prop} (H : merkle_Root t0 h0 R) : CallsH PG id_merkle_Root #[t0] h0 R :=
  callsF_by merkle_Root.ann 200 mix Tryd.func22 (by kernel_rfl) (by kernel_rfl) (by kernel_rfl) (by kernel_rfl) (by simp [Tryd.ntmps22]) (merkle_Root.eq t0 h0 R) H

def merkle_Top_b4 (R : Value → PH → Prop) (n3 : List Value → PH → Prop) (t1 : Value) (t5 : Value) (t6 : Value) (t11 : Value) (h0 : PH) : Prop :=
 popO (SemP PG (binOp BinOp.lss T_int t11 (Value.int IntKind.i64 8))) fun v5 =>
 condV v5
 (popO (SemP PG (binOp BinOp.mul T_int (Value.int IntKind.i64 8) t11)) fun v6 =>
 popO (SemP PG (binOp BinOp.sub T_int (Value.int IntKind.i64 56) v6)) fun v7 =>
 popO (SemP PG (binOp BinOp.shr T_uint64 t5 v7)) fun v8 =>
 popO (SemP PG (binOp BinOp.and T_uint64 v8 (Value.int IntKind.u64 255))) fun v9 =>
 popO (SemP PG (convert T_uint64 T_int v9)) fun v10 =>
 CallsH PG id_merkle_one #[v10] h0 fun v11 h12 =>
 popO (SemP PG (binOp BinOp.add T_string t6 v11)) fun v13 =>
 popO (SemP PG (binOp BinOp.add T_int t11 (Value.int IntKind.i64 1))) fun v14 =>
 n3 [t1, t5, v13, v14] h12)
 (popO (SemA PG (Instr.buildSlice T_sl_string 3 #[(0, (Value.string { data := #[2] })), (1, t6), (2, t1)])) fun x16 => ∀ r15, h0 r15 = none → popO (SemP PG (x16.2 r15)) fun v17 => bindH (PH.set h0 r15 x16.1) fun h18 =>
 CallsH PG id_sha_Sum #[v17] h18 fun v19 h20 =>
 R v19 h20)
def merkle_Top (t0 : Value) (t1 : Value) (h0 : PH) (R : Value → PH → Prop) : Prop :=
 popO (SemP PG (Builtin.max_ #[T_int, T_int] T_int #[(Value.int IntKind.i64 0), t0])) fun v1 =>
 popO (SemP PG (convert T_int T_uint64 v1)) fun v2 =>
 LoopL [1, 5, 6, 11] (fun n3 ρ h => merkle_Top_b4 R n3 (ρ 1) (ρ 5) (ρ 6) (ρ 11) h) [t1, v2, (Value.string { data := #[] }), (Value.int IntKind.i64 0)] h0
def merkle_Top.ann : Ann := { b := fun i => match i with  | _ => #[], ord := fun i => match i with  | _ => [], keep := fun i => match i with | 4 => [1, 5, 6, 11] | _ => [], n := 29 }
theorem merkle_Top.eq (t0 : Value) (t1 : Value) (h0 : PH) (R : Value → PH → Prop) : codeF PG merkle_Top.ann 200 (bodyOf Tryd.f32) (endH PG Tryd.f32 R) (fun t => (#[t0, t1] : Array Value).getD t undef) h0 = merkle_Top t0 t1 h0 R := by kernel_rfl
theorem merkle_Top.call {t0 : Value} {t1 : Value} {h0 : PH} {R : Value → PH → Prop} (H : merkle_Top t0 t1 h0 R) : CallsH PG id_merkle_Top #[t0, t1] h0 R :=
  callsF_by merkle_Top.ann 200 mix Tryd.func32 (by kernel_rfl) (by kernel_rfl) (by kernel_rfl) (by kernel_rfl) (by simp [Tryd.ntmps32]) (merkle_Top.eq t0 t1 h0 R) H

def merkle_one (t0 : Value) (h0 : PH) (R : Value → PH → Prop) : Prop :=
 popO (SemP PG (convert T_int T_uint8 t0)) fun v1 =>
 popO (SemA PG (Instr.buildSlice T_sl_uint8 1 #[(0, v1)])) fun x3 => ∀ r2, h0 r2 = none → popO (SemP PG (x3.2 r2)) fun v4 => bindH (PH.set h0 r2 x3.1) fun h5 =>
 popO (SemE PG h5 (convert T_sl_uint8 T_string v4)) fun v6 =>
 R v6 h5
def merkle_one.ann : Ann := { b := fun i => match i with  | _ => #[], ord := fun i => match i with  | _ => [], keep := fun i => match i with  | _ => [], n := 7 }
theorem merkle_one.eq (t0 : Value) (h0 : PH) (R : Value → PH → Prop) : codeF PG merkle_one.ann 200 (bodyOf Tryd.f40) (endH PG Tryd.f40 R) (fun t => (#[t0] : Array Value).getD t undef) h0 = merkle_one t0 h0 R := by kernel_rfl
theorem merkle_one.call {t0 : Value} {h0 : PH} {R : Value → PH → Prop} (H : merkle_one t0 h0 R) : CallsH PG id_merkle_one #[t0] h0 R :=
  callsF_by merkle_one.ann 200 mix Tryd.func40 (by kernel_rfl) (by kernel_rfl) (by kernel_rfl) (by kernel_rfl) (by simp [Tryd.ntmps40]) (merkle_one.eq t0 h0 R) H

def sha_Sum_b5 (R : Value → PH → Prop) (n4 : List Value → PH → Prop) (t3 : Value) (t7 : Value) (t8 : Value) (t9 : Value) (h0 : PH) : Prop :=
 popO (SemP PG (binOp BinOp.lss T_int t9 t8)) fun v6 =>
 condV v6
 (popO (SemP PG (Instr.indexAt T_sl_string t7 t9)) fun v7 =>
 popO (SemE PG h0 (Instr.loadAt T_string v7)) fun v8 =>
 CallsH PG id_sha_Hash_Write #[t3, v8] h0 fun v9 h10 =>
 popO (SemP PG (binOp BinOp.add T_int t9 (Value.int IntKind.i64 1))) fun v11 =>
 n4 [t3, t7, t8, v11] h10)
 (CallsH PG id_sha_Hash_Sum #[t3] h0 fun v12 h13 =>
 R v12 h13)
def sha_Sum (t0 : Value) (h0 : PH) (R : Value → PH → Prop) : Prop :=
 CallsH PG id_sha_New #[] h0 fun v1 h2 =>
 popO (SemP PG (Builtin.len_ #[T_sl_string] T_int #[t0])) fun v3 =>
 LoopL [3, 7, 8, 9] (fun n4 ρ h => sha_Sum_b5 R n4 (ρ 3) (ρ 7) (ρ 8) (ρ 9) h) [v1, t0, v3, (Value.int IntKind.i64 0)] h2
def sha_Sum.ann : Ann := { b := fun i => match i with  | _ => #[], ord := fun i => match i with  | _ => [], keep := fun i => match i with | 3 => [3, 7, 8, 9] | _ => [], n := 19 }
theorem sha_Sum.eq (t0 : Value) (h0 : PH) (R : Value → PH → Prop) : codeF PG sha_Sum.ann 200 (bodyOf Tryd.f41) (endH PG Tryd.f41 R) (fun t => (#[t0] : Array Value).getD t undef) h0 = sha_Sum t0 h0 R := by kernel_rfl
theorem sha_Sum.call {t0 : Value} {h0 : PH} {R : Value → PH → Prop} (H : sha_Sum t0 h0 R) : CallsH PG id_sha_Sum #[t0] h0 R :=
  callsF_by sha_Sum.ann 200 mix Tryd.func41 (by kernel_rfl) (by kernel_rfl) (by kernel_rfl) (by kernel_rfl) (by simp [Tryd.ntmps41]) (sha_Sum.eq t0 h0 R) H

def sha_New (h0 : PH) (R : Value → PH → Prop) : Prop :=
 CallsH PG id_sha_begin #[] h0 fun v1 h2 =>
 popO (SemP PG (Instr.build T_sha_Hash #[(0, v1)])) fun v3 =>
 ∀ r4, h2 r4 = none → bindH (PH.set h2 r4 (.cells (Value.cells v3) T_sha_Hash)) fun h5 =>
 R (Value.pointer (some ⟨r4, 0, none⟩)) h5
def sha_New.ann : Ann := { b := fun i => match i with  | _ => #[], ord := fun i => match i with  | _ => [], keep := fun i => match i with  | _ => [], n := 4 }
theorem sha_New.eq (h0 : PH) (R : Value → PH → Prop) : codeF PG sha_New.ann 200 (bodyOf Tryd.f55) (endH PG Tryd.f55 R) (fun t => (#[] : Array Value).getD t undef) h0 = sha_New  h0 R := by kernel_rfl
theorem sha_New.call {h0 : PH} {R : Value → PH → Prop} (H : sha_New  h0 R) : CallsH PG id_sha_New #[] h0 R :=
  callsF_by sha_New.ann 200 mix Tryd.func55 (by kernel_rfl) (by kernel_rfl) (by kernel_rfl) (by kernel_rfl) (by simp [Tryd.ntmps55]) (sha_New.eq  h0 R) H

def sha_begin (h0 : PH) (R : Value → PH → Prop) : Prop :=
 ∀ r1, h0 r1 = none → bindH (PH.set h0 r1 (.cells (zcells PG T_sha_state) T_sha_state)) fun h2 =>
 popO (SemP PG (Instr.build T_8_uint32 #[(0, (Value.int IntKind.u32 1779033703)), (1, (Value.int IntKind.u32 3144134277)), (2, (Value.int IntKind.u32 1013904242)), (3, (Value.int IntKind.u32 2773480762)), (4, (Value.int IntKind.u32 1359893119)), (5, (Value.int IntKind.u32 2600822924)), (6, (Value.int IntKind.u32 528734635)), (7, (Value.int IntKind.u32 1541459225))])) fun v3 =>
 popO (SemP PG (Instr.build T_sha_state #[(0, v3)])) fun v4 =>
 SemH PG (storeS T_sha_state (Value.pointer (some ⟨r1, 0, none⟩)) v4) h2 fun v5 h6 =>
 popO (SemE PG h6 (Instr.loadAt T_sha_state (Value.pointer (some ⟨r1, 0, none⟩)))) fun v7 =>
 R v7 h6
def sha_begin.ann : Ann := { b := fun i => match i with  | _ => #[], ord := fun i => match i with  | _ => [], keep := fun i => match i with  | _ => [], n := 3 }
theorem sha_begin.eq (h0 : PH) (R : Value → PH → Prop) : codeF PG sha_begin.ann 200 (bodyOf Tryd.f63) (endH PG Tryd.f63 R) (fun t => (#[] : Array Value).getD t undef) h0 = sha_begin  h0 R := by kernel_rfl
theorem sha_begin.call {h0 : PH} {R : Value → PH → Prop} (H : sha_begin  h0 R) : CallsH PG id_sha_begin #[] h0 R :=
  callsF_by sha_begin.ann 200 mix Tryd.func63 (by kernel_rfl) (by kernel_rfl) (by kernel_rfl) (by kernel_rfl) (by simp [Tryd.ntmps63]) (sha_begin.eq  h0 R) H

def sha_Hash_Write_b21 (R : Value → PH → Prop) (n20 : List Value → PH → Prop) (t0 : Value) (h0 : PH) : Prop :=
 popO (SemP PG (nilS t0)) fun v22 =>
 popO (SemP PG (Instr.fieldAt T_sha_Hash v22 1)) fun v23 =>
 popO (SemE PG h0 (Instr.loadAt T_string v23)) fun v24 =>
 popO (SemP PG (Builtin.len_ #[T_string] T_int #[v24])) fun v25 =>
 popO (SemP PG (binOp BinOp.geq T_int v25 (Value.int IntKind.i64 64))) fun v26 =>
 condV v26
 (popO (SemP PG (nilS t0)) fun v27 =>
 popO (SemP PG (Instr.fieldAt T_sha_Hash v27 0)) fun v28 =>
 popO (SemP PG (nilS t0)) fun v29 =>
 popO (SemP PG (Instr.fieldAt T_sha_Hash v29 1)) fun v30 =>
 popO (SemE PG h0 (Instr.loadAt T_string v30)) fun v31 =>
 popO (SemP PG (Instr.sliceAt T_string v31 none (some (Value.int IntKind.i64 64)) none)) fun v32 =>
 CallsH PG id_sha_state_mix #[v28, v32] h0 fun v33 h34 =>
 (popO (SemP PG (nilS t0)) fun v35 =>
 popO (SemP PG (Instr.fieldAt T_sha_Hash v35 1)) fun v36 =>
 popO (SemE PG h34 (Instr.loadAt T_string v36)) fun v37 =>
 popO (SemP PG (Instr.sliceAt T_string v37 (some (Value.int IntKind.i64 64)) none none)) fun v38 =>
 popO (SemP PG (nilS t0)) fun v39 =>
 popO (SemP PG (Instr.fieldAt T_sha_Hash v39 1)) fun v40 =>
 SemH PG (storeS T_string v40 v38) h34 fun v41 h42 =>
 n20 [t0] h42))
 (R (Value.tuple #[]) h0)
def sha_Hash_Write (t0 : Value) (t1 : Value) (h0 : PH) (R : Value → PH → Prop) : Prop :=
 popO (SemP PG (nilS t0)) fun v1 =>
 popO (SemP PG (Instr.fieldAt T_sha_Hash v1 2)) fun v2 =>
 popO (SemE PG h0 (Instr.loadAt T_int v2)) fun v3 =>
 popO (SemP PG (Builtin.len_ #[T_string] T_int #[t1])) fun v4 =>
 popO (SemP PG (binOp BinOp.add T_int v3 v4)) fun v5 =>
 popO (SemP PG (nilS t0)) fun v6 =>
 popO (SemP PG (Instr.fieldAt T_sha_Hash v6 2)) fun v7 =>
 SemH PG (storeS T_int v7 v5) h0 fun v8 h9 =>
 popO (SemP PG (nilS t0)) fun v10 =>
 popO (SemP PG (Instr.fieldAt T_sha_Hash v10 1)) fun v11 =>
 popO (SemE PG h9 (Instr.loadAt T_string v11)) fun v12 =>
 popO (SemP PG (binOp BinOp.add T_string v12 t1)) fun v13 =>
 CallsH PG id_strings_Clone #[v13] h9 fun v14 h15 =>
 popO (SemP PG (nilS t0)) fun v16 =>
 popO (SemP PG (Instr.fieldAt T_sha_Hash v16 1)) fun v17 =>
 SemH PG (storeS T_string v17 v14) h15 fun v18 h19 =>
 LoopL [0] (fun n20 ρ h => sha_Hash_Write_b21 R n20 (ρ 0) h) [t0] h19
def sha_Hash_Write.ann : Ann := { b := fun i => match i with | 3 => #[0, 1, 3, 0, 8, 24, 56, 120, 255] | _ => #[], ord := fun i => match i with | 3 => [0, 1, 2, 3, 4, 5, 6, 7, 8] | _ => [], keep := fun i => match i with | 2 => [0] | _ => [], n := 46 }
theorem sha_Hash_Write.eq (t0 : Value) (t1 : Value) (h0 : PH) (R : Value → PH → Prop) : codeF PG sha_Hash_Write.ann 200 (bodyOf Tryd.f56) (endH PG Tryd.f56 R) (fun t => (#[t0, t1] : Array Value).getD t undef) h0 = sha_Hash_Write t0 t1 h0 R := by kernel_rfl
theorem sha_Hash_Write.call {t0 : Value} {t1 : Value} {h0 : PH} {R : Value → PH → Prop} (H : sha_Hash_Write t0 t1 h0 R) : CallsH PG id_sha_Hash_Write #[t0, t1] h0 R :=
  callsF_by sha_Hash_Write.ann 200 mix Tryd.func56 (by kernel_rfl) (by kernel_rfl) (by kernel_rfl) (by kernel_rfl) (by simp [Tryd.ntmps56]) (sha_Hash_Write.eq t0 t1 h0 R) H

def strings_Clone (t0 : Value) (h0 : PH) (R : Value → PH → Prop) : Prop :=
 CallsH PG id_internal_stringslite_Clone #[t0] h0 fun v1 h2 =>
 R v1 h2
def strings_Clone.ann : Ann := { b := fun i => match i with  | _ => #[], ord := fun i => match i with  | _ => [], keep := fun i => match i with  | _ => [], n := 5 }
theorem strings_Clone.eq (t0 : Value) (h0 : PH) (R : Value → PH → Prop) : codeF PG strings_Clone.ann 200 (bodyOf Tryd.f64) (endH PG Tryd.f64 R) (fun t => (#[t0] : Array Value).getD t undef) h0 = strings_Clone t0 h0 R := by kernel_rfl
theorem strings_Clone.call {t0 : Value} {h0 : PH} {R : Value → PH → Prop} (H : strings_Clone t0 h0 R) : CallsH PG id_strings_Clone #[t0] h0 R :=
  callsF_by strings_Clone.ann 200 mix Tryd.func64 (by kernel_rfl) (by kernel_rfl) (by kernel_rfl) (by kernel_rfl) (by simp [Tryd.ntmps64]) (strings_Clone.eq t0 h0 R) H

def internal_stringslite_Clone (t0 : Value) (h0 : PH) (R : Value → PH → Prop) : Prop :=
 popO (SemP PG (Builtin.len_ #[T_string] T_int #[t0])) fun v1 =>
 popO (SemE PG h0 (binS BinOp.eql T_int (.tmp 5) (.const (Value.int IntKind.i64 0)) v1 (Value.int IntKind.i64 0))) fun v2 =>
 condV v2
 (R (Value.string { data := #[] }) h0)
 (popO (SemP PG (Builtin.len_ #[T_string] T_int #[t0])) fun v3 =>
 popO (SemA PG (Instr.makeSlice T_sl_uint8 v3 v3)) fun x5 => ∀ r4, h0 r4 = none → popO (SemP PG (x5.2 r4)) fun v6 => bindH (PH.set h0 r4 x5.1) fun h7 =>
 SemH PG (Builtin.copy_ #[T_sl_uint8, T_string] T_int #[v6, t0]) h7 fun v8 h9 =>
 popO (SemP PG (Instr.indexAt T_sl_uint8 v6 (Value.int IntKind.i64 0))) fun v10 =>
 popO (SemP PG (Builtin.len_ #[T_sl_uint8] T_int #[v6])) fun v11 =>
 SemH PG (Builtin.unsafeString_ #[T_p_uint8, T_int] T_string #[v10, v11]) h9 fun v12 h13 =>
 R v12 h13)
def internal_stringslite_Clone.ann : Ann := { b := fun i => match i with  | _ => #[], ord := fun i => match i with  | _ => [], keep := fun i => match i with  | _ => [], n := 18 }
theorem internal_stringslite_Clone.eq (t0 : Value) (h0 : PH) (R : Value → PH → Prop) : codeF PG internal_stringslite_Clone.ann 200 (bodyOf Tryd.f71) (endH PG Tryd.f71 R) (fun t => (#[t0] : Array Value).getD t undef) h0 = internal_stringslite_Clone t0 h0 R := by kernel_rfl
theorem internal_stringslite_Clone.call {t0 : Value} {h0 : PH} {R : Value → PH → Prop} (H : internal_stringslite_Clone t0 h0 R) : CallsH PG id_internal_stringslite_Clone #[t0] h0 R :=
  callsF_by internal_stringslite_Clone.ann 200 mix Tryd.func71 (by kernel_rfl) (by kernel_rfl) (by kernel_rfl) (by kernel_rfl) (by simp [Tryd.ntmps71]) (internal_stringslite_Clone.eq t0 h0 R) H

def sha_state_mix_b85 (R : Value → PH → Prop) (n84 : List Value → PH → Prop) (t0 : Value) (t5 : Value) (t92 : Value) (h0 : PH) : Prop :=
 popO (SemP PG (binOp BinOp.lss T_int t92 (Value.int IntKind.i64 8))) fun v86 =>
 condV v86
 (popO (SemP PG (nilS t0)) fun v87 =>
 popO (SemP PG (Instr.fieldAt T_sha_state v87 0)) fun v88 =>
 popO (SemP PG (Instr.indexAt T_8_uint32 v88 t92)) fun v89 =>
 popO (SemE PG h0 (Instr.loadAt T_uint32 v89)) fun v90 =>
 popO (SemP PG (Instr.indexAt T_8_uint32 t5 t92)) fun v91 =>
 popO (SemE PG h0 (Instr.loadAt T_uint32 v91)) fun v92 =>
 popO (SemP PG (binOp BinOp.add T_uint32 v90 v92)) fun v93 =>
 popO (SemP PG (nilS t0)) fun v94 =>
 popO (SemP PG (Instr.fieldAt T_sha_state v94 0)) fun v95 =>
 popO (SemP PG (Instr.indexAt T_8_uint32 v95 t92)) fun v96 =>
 SemH PG (storeS T_uint32 v96 v93) h0 fun v97 h98 =>
 (popO (SemP PG (binOp BinOp.add T_int t92 (Value.int IntKind.i64 1))) fun v99 =>
 n84 [t0, t5, v99] h98))
 (R (Value.tuple #[]) h0)
def sha_state_mix_b15 (R : Value → PH → Prop) (n14 : List Value → PH → Prop) (t0 : Value) (t4 : Value) (t5 : Value) (t18 : Value) (h0 : PH) : Prop :=
 popO (SemP PG (binOp BinOp.lss T_int t18 (Value.int IntKind.i64 64))) fun v16 =>
 condV v16
 (popO (SemP PG (Instr.indexAt T_8_uint32 t5 (Value.int IntKind.i64 0))) fun v17 =>
 popO (SemE PG h0 (Instr.loadAt T_uint32 v17)) fun v18 =>
 popO (SemP PG (Instr.indexAt T_8_uint32 t5 (Value.int IntKind.i64 4))) fun v19 =>
 popO (SemE PG h0 (Instr.loadAt T_uint32 v19)) fun v20 =>
 popO (SemP PG (Instr.indexAt T_8_uint32 t5 (Value.int IntKind.i64 7))) fun v21 =>
 popO (SemE PG h0 (Instr.loadAt T_uint32 v21)) fun v22 =>
 popO (SemP PG (Instr.indexAt T_8_uint32 t5 (Value.int IntKind.i64 5))) fun v23 =>
 popO (SemE PG h0 (Instr.loadAt T_uint32 v23)) fun v24 =>
 popO (SemP PG (binOp BinOp.and T_uint32 v20 v24)) fun v25 =>
 popO (SemP PG (Op.unary UnOp.xor v20)) fun v26 =>
 popO (SemP PG (Instr.indexAt T_8_uint32 t5 (Value.int IntKind.i64 6))) fun v27 =>
 popO (SemE PG h0 (Instr.loadAt T_uint32 v27)) fun v28 =>
 popO (SemP PG (binOp BinOp.and T_uint32 v26 v28)) fun v29 =>
 popO (SemP PG (binOp BinOp.xor T_uint32 v25 v29)) fun v30 =>
 popO (SemP PG (Instr.indexAt T_64_uint32 (Value.pointer (some ⟨0, 0, none⟩)) t18)) fun v31 =>
 popO (SemE PG h0 (Instr.loadAt T_uint32 v31)) fun v32 =>
 popO (SemP PG (Instr.indexAt T_64_uint32 t4 t18)) fun v33 =>
 popO (SemE PG h0 (Instr.loadAt T_uint32 v33)) fun v34 =>
 CallsH PG id_sha_turn #[v20, (Value.int IntKind.i64 6)] h0 fun v35 h36 =>
 SemE PG h36 (Instr.loadAt T_uint32 v33) = some v34 ∧ SemE PG h36 (Instr.loadAt T_uint32 v31) = some v32 ∧ SemE PG h36 (Instr.loadAt T_uint32 v27) = some v28 ∧ SemE PG h36 (Instr.loadAt T_uint32 v23) = some v24 ∧ SemE PG h36 (Instr.loadAt T_uint32 v21) = some v22 ∧ (CallsH PG id_sha_turn #[v20, (Value.int IntKind.i64 11)] h36 fun v37 h38 =>
 SemE PG h38 (Instr.loadAt T_uint32 v33) = some v34 ∧ SemE PG h38 (Instr.loadAt T_uint32 v31) = some v32 ∧ SemE PG h38 (Instr.loadAt T_uint32 v27) = some v28 ∧ SemE PG h38 (Instr.loadAt T_uint32 v23) = some v24 ∧ SemE PG h38 (Instr.loadAt T_uint32 v21) = some v22 ∧ (popO (SemP PG (binOp BinOp.xor T_uint32 v35 v37)) fun v39 =>
 CallsH PG id_sha_turn #[v20, (Value.int IntKind.i64 25)] h38 fun v40 h41 =>
 SemE PG h41 (Instr.loadAt T_uint32 v33) = some v34 ∧ SemE PG h41 (Instr.loadAt T_uint32 v31) = some v32 ∧ SemE PG h41 (Instr.loadAt T_uint32 v27) = some v28 ∧ SemE PG h41 (Instr.loadAt T_uint32 v23) = some v24 ∧ SemE PG h41 (Instr.loadAt T_uint32 v21) = some v22 ∧ (popO (SemP PG (binOp BinOp.xor T_uint32 v39 v40)) fun v42 =>
 popO (SemP PG (binOp BinOp.add T_uint32 v22 v42)) fun v43 =>
 popO (SemP PG (binOp BinOp.add T_uint32 v43 v30)) fun v44 =>
 popO (SemP PG (binOp BinOp.add T_uint32 v44 v32)) fun v45 =>
 popO (SemP PG (binOp BinOp.add T_uint32 v45 v34)) fun v46 =>
 popO (SemP PG (Instr.indexAt T_8_uint32 t5 (Value.int IntKind.i64 1))) fun v47 =>
 popO (SemE PG h41 (Instr.loadAt T_uint32 v47)) fun v48 =>
 popO (SemP PG (binOp BinOp.and T_uint32 v18 v48)) fun v49 =>
 popO (SemP PG (Instr.indexAt T_8_uint32 t5 (Value.int IntKind.i64 2))) fun v50 =>
 popO (SemE PG h41 (Instr.loadAt T_uint32 v50)) fun v51 =>
 popO (SemP PG (binOp BinOp.and T_uint32 v18 v51)) fun v52 =>
 popO (SemP PG (binOp BinOp.xor T_uint32 v49 v52)) fun v53 =>
 popO (SemP PG (Instr.indexAt T_8_uint32 t5 (Value.int IntKind.i64 1))) fun v54 =>
 popO (SemE PG h41 (Instr.loadAt T_uint32 v54)) fun v55 =>
 popO (SemP PG (Instr.indexAt T_8_uint32 t5 (Value.int IntKind.i64 2))) fun v56 =>
 popO (SemE PG h41 (Instr.loadAt T_uint32 v56)) fun v57 =>
 popO (SemP PG (binOp BinOp.and T_uint32 v55 v57)) fun v58 =>
 popO (SemP PG (binOp BinOp.xor T_uint32 v53 v58)) fun v59 =>
 CallsH PG id_sha_turn #[v18, (Value.int IntKind.i64 2)] h41 fun v60 h61 =>
 SemE PG h61 (Instr.loadAt T_uint32 v56) = some v57 ∧ SemE PG h61 (Instr.loadAt T_uint32 v54) = some v55 ∧ SemE PG h61 (Instr.loadAt T_uint32 v50) = some v51 ∧ SemE PG h61 (Instr.loadAt T_uint32 v47) = some v48 ∧ (CallsH PG id_sha_turn #[v18, (Value.int IntKind.i64 13)] h61 fun v62 h63 =>
 SemE PG h63 (Instr.loadAt T_uint32 v56) = some v57 ∧ SemE PG h63 (Instr.loadAt T_uint32 v54) = some v55 ∧ SemE PG h63 (Instr.loadAt T_uint32 v50) = some v51 ∧ SemE PG h63 (Instr.loadAt T_uint32 v47) = some v48 ∧ (popO (SemP PG (binOp BinOp.xor T_uint32 v60 v62)) fun v64 =>
 CallsH PG id_sha_turn #[v18, (Value.int IntKind.i64 22)] h63 fun v65 h66 =>
 SemE PG h66 (Instr.loadAt T_uint32 v56) = some v57 ∧ SemE PG h66 (Instr.loadAt T_uint32 v54) = some v55 ∧ SemE PG h66 (Instr.loadAt T_uint32 v50) = some v51 ∧ SemE PG h66 (Instr.loadAt T_uint32 v47) = some v48 ∧ (popO (SemP PG (binOp BinOp.xor T_uint32 v64 v65)) fun v67 =>
 popO (SemP PG (binOp BinOp.add T_uint32 v67 v59)) fun v68 =>
 popO (SemP PG (Instr.sliceAt T_8_uint32 t5 (some (Value.int IntKind.i64 1)) none none)) fun v69 =>
 popO (SemP PG (Instr.sliceAt T_8_uint32 t5 none (some (Value.int IntKind.i64 7)) none)) fun v70 =>
 SemH PG (Builtin.copy_ #[T_sl_uint32, T_sl_uint32] T_int #[v69, v70]) h66 fun v71 h72 =>
 (popO (SemP PG (Instr.indexAt T_8_uint32 t5 (Value.int IntKind.i64 4))) fun v73 =>
 popO (SemE PG h72 (Instr.loadAt T_uint32 v73)) fun v74 =>
 popO (SemP PG (binOp BinOp.add T_uint32 v74 v46)) fun v75 =>
 popO (SemP PG (Instr.indexAt T_8_uint32 t5 (Value.int IntKind.i64 4))) fun v76 =>
 SemH PG (storeS T_uint32 v76 v75) h72 fun v77 h78 =>
 popO (SemP PG (binOp BinOp.add T_uint32 v46 v68)) fun v79 =>
 popO (SemP PG (Instr.indexAt T_8_uint32 t5 (Value.int IntKind.i64 0))) fun v80 =>
 SemH PG (storeS T_uint32 v80 v79) h78 fun v81 h82 =>
 popO (SemP PG (binOp BinOp.add T_int t18 (Value.int IntKind.i64 1))) fun v83 =>
 n14 [t0, t4, t5, v83] h82))))))))
 (LoopL [0, 5, 92] (fun n84 ρ h => sha_state_mix_b85 R n84 (ρ 0) (ρ 5) (ρ 92) h) [t0, t5, (Value.int IntKind.i64 0)] h0)
def sha_state_mix (t0 : Value) (t1 : Value) (h0 : PH) (R : Value → PH → Prop) : Prop :=
 CallsH PG id_sha_words #[t1] h0 fun v1 h2 =>
 ∀ r3, h2 r3 = none → bindH (PH.set h2 r3 (.cells (zcells PG T_64_uint32) T_64_uint32)) fun h4 =>
 SemH PG (storeS T_64_uint32 (Value.pointer (some ⟨r3, 0, none⟩)) v1) h4 fun v5 h6 =>
 popO (SemP PG (nilS t0)) fun v7 =>
 popO (SemP PG (Instr.fieldAt T_sha_state v7 0)) fun v8 =>
 popO (SemE PG h6 (Instr.loadAt T_8_uint32 v8)) fun v9 =>
 ∀ r10, h6 r10 = none → bindH (PH.set h6 r10 (.cells (zcells PG T_8_uint32) T_8_uint32)) fun h11 =>
 SemH PG (storeS T_8_uint32 (Value.pointer (some ⟨r10, 0, none⟩)) v9) h11 fun v12 h13 =>
 LoopL [0, 4, 5, 18] (fun n14 ρ h => sha_state_mix_b15 R n14 (ρ 0) (ρ 4) (ρ 5) (ρ 18) h) [t0, (Value.pointer (some ⟨r3, 0, none⟩)), (Value.pointer (some ⟨r10, 0, none⟩)), (Value.int IntKind.i64 0)] h13
def sha_state_mix.ann : Ann := { b := fun i => match i with | 5 => #[0, 1, 0, 4, 3, 31] | 6 => #[0, 1, 0, 4, 0, 28, 60, 0, 188, 508, 1023, 0, 0, 4096, 14336, 0, 32768, 0, 131072, 491520, 1046528, 2097151, 0, 4194304, 12582912, 33554431, 0, 67108864, 201326592, 536870911, 1073741823] | 7 => #[0, 1, 0, 7, 15, 0, 47, 127, 0, 0, 512, 1792, 0, 0, 8192, 28672, 65280, 0, 131072, 0, 524288, 1966080, 4194048, 8388607, 16777215] | 8 => #[0, 0, 3] | 15 => #[0, 0, 1, 5, 15, 31, 0, 64, 192, 511, 1, 1025, 4095, 8191] | _ => #[], ord := fun i => match i with | 5 => [0, 1, 2, 3, 4, 5] | 6 => [0, 1, 2, 4, 7, 11, 12, 13, 14, 15, 16, 17, 18, 19, 20, 22, 23, 24, 26, 27, 28, 3, 5, 6, 8, 9, 10, 21, 25, 29, 30] | 7 => [0, 2, 5, 8, 9, 10, 11, 12, 13, 14, 15, 16, 17, 18, 19, 20, 21, 22, 1, 3, 4, 6, 7, 23, 24] | 8 => [0, 1, 2] | 15 => [0, 1, 2, 3, 4, 5, 6, 7, 8, 9, 10, 11, 12, 13] | _ => [], keep := fun i => match i with | 3 => [0, 4, 5, 18] | 13 => [0, 5, 92] | _ => [], n := 109 }
theorem sha_state_mix.eq (t0 : Value) (t1 : Value) (h0 : PH) (R : Value → PH → Prop) : codeF PG sha_state_mix.ann 200 (bodyOf Tryd.f65) (endH PG Tryd.f65 R) (fun t => (#[t0, t1] : Array Value).getD t undef) h0 = sha_state_mix t0 t1 h0 R := by kernel_rfl
theorem sha_state_mix.call {t0 : Value} {t1 : Value} {h0 : PH} {R : Value → PH → Prop} (H : sha_state_mix t0 t1 h0 R) : CallsH PG id_sha_state_mix #[t0, t1] h0 R :=
  callsF_by sha_state_mix.ann 200 mix Tryd.func65 (by kernel_rfl) (by kernel_rfl) (by kernel_rfl) (by kernel_rfl) (by simp [Tryd.ntmps65]) (sha_state_mix.eq t0 t1 h0 R) H

def sha_words_b31 (R : Value → PH → Prop) (n30 : List Value → PH → Prop) (t2 : Value) (t3 : Value) (t6 : Value) (h0 : PH) : Prop :=
 popO (SemP PG (binOp BinOp.lss T_int t6 (Value.int IntKind.i64 64))) fun v32 =>
 condV v32
 (popO (SemP PG (binOp BinOp.sub T_int t6 (Value.int IntKind.i64 15))) fun v33 =>
 popO (SemP PG (Instr.indexAt T_64_uint32 t3 v33)) fun v34 =>
 popO (SemE PG h0 (Instr.loadAt T_uint32 v34)) fun v35 =>
 popO (SemP PG (binOp BinOp.sub T_int t6 (Value.int IntKind.i64 2))) fun v36 =>
 popO (SemP PG (Instr.indexAt T_64_uint32 t3 v36)) fun v37 =>
 popO (SemE PG h0 (Instr.loadAt T_uint32 v37)) fun v38 =>
 popO (SemP PG (binOp BinOp.sub T_int t6 (Value.int IntKind.i64 16))) fun v39 =>
 popO (SemP PG (Instr.indexAt T_64_uint32 t3 v39)) fun v40 =>
 popO (SemE PG h0 (Instr.loadAt T_uint32 v40)) fun v41 =>
 popO (SemP PG (binOp BinOp.shr T_uint32 v35 (Value.int IntKind.u64 3))) fun v42 =>
 popO (SemP PG (binOp BinOp.sub T_int t6 (Value.int IntKind.i64 7))) fun v43 =>
 popO (SemP PG (Instr.indexAt T_64_uint32 t3 v43)) fun v44 =>
 popO (SemE PG h0 (Instr.loadAt T_uint32 v44)) fun v45 =>
 popO (SemP PG (binOp BinOp.shr T_uint32 v38 (Value.int IntKind.u64 10))) fun v46 =>
 CallsH PG id_sha_turn #[v35, (Value.int IntKind.i64 7)] h0 fun v47 h48 =>
 SemE PG h48 (Instr.loadAt T_uint32 v44) = some v45 ∧ SemE PG h48 (Instr.loadAt T_uint32 v40) = some v41 ∧ (CallsH PG id_sha_turn #[v35, (Value.int IntKind.i64 18)] h48 fun v49 h50 =>
 SemE PG h50 (Instr.loadAt T_uint32 v44) = some v45 ∧ SemE PG h50 (Instr.loadAt T_uint32 v40) = some v41 ∧ (popO (SemP PG (binOp BinOp.xor T_uint32 v47 v49)) fun v51 =>
 popO (SemP PG (binOp BinOp.xor T_uint32 v51 v42)) fun v52 =>
 popO (SemP PG (binOp BinOp.add T_uint32 v41 v52)) fun v53 =>
 popO (SemP PG (binOp BinOp.add T_uint32 v53 v45)) fun v54 =>
 CallsH PG id_sha_turn #[v38, (Value.int IntKind.i64 17)] h50 fun v55 h56 =>
 SemE PG h56 (Instr.loadAt T_uint32 v44) = some v45 ∧ SemE PG h56 (Instr.loadAt T_uint32 v40) = some v41 ∧ (CallsH PG id_sha_turn #[v38, (Value.int IntKind.i64 19)] h56 fun v57 h58 =>
 SemE PG h58 (Instr.loadAt T_uint32 v44) = some v45 ∧ SemE PG h58 (Instr.loadAt T_uint32 v40) = some v41 ∧ (popO (SemP PG (binOp BinOp.xor T_uint32 v55 v57)) fun v59 =>
 popO (SemP PG (binOp BinOp.xor T_uint32 v59 v46)) fun v60 =>
 popO (SemP PG (binOp BinOp.add T_uint32 v54 v60)) fun v61 =>
 popO (SemP PG (Instr.indexAt T_64_uint32 t3 t6)) fun v62 =>
 SemH PG (storeS T_uint32 v62 v61) h58 fun v63 h64 =>
 (popO (SemP PG (binOp BinOp.add T_int t6 (Value.int IntKind.i64 1))) fun v65 =>
 n30 [t2, t3, v65] h64))))))
 (popO (SemE PG h0 (Instr.loadAt T_64_uint32 t3)) fun v66 =>
 SemH PG (storeS T_64_uint32 t2 v66) h0 fun v67 h68 =>
 popO (SemE PG h68 (Instr.loadAt T_64_uint32 t2)) fun v69 =>
 R v69 h68)
def sha_words_b6 (R : Value → PH → Prop) (n5 : List Value → PH → Prop) (t0 : Value) (t2 : Value) (t3 : Value) (t9 : Value) (h0 : PH) : Prop :=
 popO (SemP PG (binOp BinOp.lss T_int t9 (Value.int IntKind.i64 16))) fun v7 =>
 condV v7
 (popO (SemP PG (binOp BinOp.mul T_int (Value.int IntKind.i64 4) t9)) fun v8 =>
 popO (SemP PG (binOp BinOp.mul T_int (Value.int IntKind.i64 4) t9)) fun v9 =>
 popO (SemP PG (binOp BinOp.add T_int v9 (Value.int IntKind.i64 4))) fun v10 =>
 popO (SemP PG (Instr.sliceAt T_string t0 (some v8) (some v10) none)) fun v11 =>
 popO (SemP PG (Instr.index T_string v11 (Value.int IntKind.i64 0))) fun v12 =>
 popO (SemP PG (convert T_uint8 T_uint32 v12)) fun v13 =>
 popO (SemP PG (binOp BinOp.shl T_uint32 v13 (Value.int IntKind.u64 24))) fun v14 =>
 popO (SemP PG (Instr.index T_string v11 (Value.int IntKind.i64 1))) fun v15 =>
 popO (SemP PG (convert T_uint8 T_uint32 v15)) fun v16 =>
 popO (SemP PG (binOp BinOp.shl T_uint32 v16 (Value.int IntKind.u64 16))) fun v17 =>
 popO (SemP PG (binOp BinOp.or T_uint32 v14 v17)) fun v18 =>
 popO (SemP PG (Instr.index T_string v11 (Value.int IntKind.i64 2))) fun v19 =>
 popO (SemP PG (convert T_uint8 T_uint32 v19)) fun v20 =>
 popO (SemP PG (binOp BinOp.shl T_uint32 v20 (Value.int IntKind.u64 8))) fun v21 =>
 popO (SemP PG (binOp BinOp.or T_uint32 v18 v21)) fun v22 =>
 popO (SemP PG (Instr.index T_string v11 (Value.int IntKind.i64 3))) fun v23 =>
 popO (SemP PG (convert T_uint8 T_uint32 v23)) fun v24 =>
 popO (SemP PG (binOp BinOp.or T_uint32 v22 v24)) fun v25 =>
 popO (SemP PG (Instr.indexAt T_64_uint32 t3 t9)) fun v26 =>
 SemH PG (storeS T_uint32 v26 v25) h0 fun v27 h28 =>
 (popO (SemP PG (binOp BinOp.add T_int t9 (Value.int IntKind.i64 1))) fun v29 =>
 n5 [t0, t2, t3, v29] h28))
 (LoopL [2, 3, 6] (fun n30 ρ h => sha_words_b31 R n30 (ρ 2) (ρ 3) (ρ 6) h) [t2, t3, (Value.int IntKind.i64 16)] h0)
def sha_words (t0 : Value) (h0 : PH) (R : Value → PH → Prop) : Prop :=
 ∀ r1, h0 r1 = none → bindH (PH.set h0 r1 (.cells (zcells PG T_64_uint32) T_64_uint32)) fun h2 =>
 ∀ r3, h2 r3 = none → bindH (PH.set h2 r3 (.cells (zcells PG T_64_uint32) T_64_uint32)) fun h4 =>
 LoopL [0, 2, 3, 9] (fun n5 ρ h => sha_words_b6 R n5 (ρ 0) (ρ 2) (ρ 3) (ρ 9) h) [t0, (Value.pointer (some ⟨r1, 0, none⟩)), (Value.pointer (some ⟨r3, 0, none⟩)), (Value.int IntKind.i64 0)] h4
def sha_words.ann : Ann := { b := fun i => match i with | 6 => #[0, 0, 2, 6, 14, 0, 32, 96, 224, 510, 0, 1024, 3072, 7168, 16382, 0, 32768, 98304, 262142, 524287, 1048575] | 11 => #[0, 1, 3, 7, 0, 16, 48, 112, 15, 511] | 12 => #[0, 0, 2, 6, 14, 0, 32, 0, 224, 480, 0, 1024, 4064, 8190, 0, 16384, 49152, 114688, 262142, 0, 524768, 0, 3670496, 7864800, 0, 16777216, 66585056, 134217726, 268435455, 536870911] | _ => #[], ord := fun i => match i with | 6 => [0, 1, 2, 3, 4, 5, 6, 7, 8, 9, 10, 11, 12, 13, 14, 15, 16, 17, 18, 19, 20] | 11 => [0, 1, 2, 3, 4, 5, 6, 7, 8, 9] | 12 => [0, 1, 2, 3, 4, 5, 7, 10, 11, 14, 15, 16, 17, 19, 21, 24, 25, 6, 8, 9, 12, 13, 18, 20, 22, 23, 26, 27, 28, 29] | _ => [], keep := fun i => match i with | 3 => [0, 2, 3, 9] | 9 => [2, 3, 6] | _ => [], n := 82 }
theorem sha_words.eq (t0 : Value) (h0 : PH) (R : Value → PH → Prop) : codeF PG sha_words.ann 200 (bodyOf Tryd.f72) (endH PG Tryd.f72 R) (fun t => (#[t0] : Array Value).getD t undef) h0 = sha_words t0 h0 R := by kernel_rfl
theorem sha_words.call {t0 : Value} {h0 : PH} {R : Value → PH → Prop} (H : sha_words t0 h0 R) : CallsH PG id_sha_words #[t0] h0 R :=
  callsF_by sha_words.ann 200 mix Tryd.func72 (by kernel_rfl) (by kernel_rfl) (by kernel_rfl) (by kernel_rfl) (by simp [Tryd.ntmps72]) (sha_words.eq t0 h0 R) H

def sha_turn (t0 : Value) (t1 : Value) (h0 : PH) (R : Value → PH → Prop) : Prop :=
 popO (SemP PG (Op.unary UnOp.neg t1)) fun v1 =>
 CallsH PG id_math_bits_RotateLeft32 #[t0, v1] h0 fun v2 h3 =>
 R v2 h3
def sha_turn.ann : Ann := { b := fun i => match i with  | _ => #[], ord := fun i => match i with  | _ => [], keep := fun i => match i with  | _ => [], n := 9 }
theorem sha_turn.eq (t0 : Value) (t1 : Value) (h0 : PH) (R : Value → PH → Prop) : codeF PG sha_turn.ann 200 (bodyOf Tryd.f73) (endH PG Tryd.f73 R) (fun t => (#[t0, t1] : Array Value).getD t undef) h0 = sha_turn t0 t1 h0 R := by kernel_rfl
theorem sha_turn.call {t0 : Value} {t1 : Value} {h0 : PH} {R : Value → PH → Prop} (H : sha_turn t0 t1 h0 R) : CallsH PG id_sha_turn #[t0, t1] h0 R :=
  callsF_by sha_turn.ann 200 mix Tryd.func73 (by kernel_rfl) (by kernel_rfl) (by kernel_rfl) (by kernel_rfl) (by simp [Tryd.ntmps73]) (sha_turn.eq t0 t1 h0 R) H

def math_bits_RotateLeft32 (t0 : Value) (t1 : Value) (h0 : PH) (R : Value → PH → Prop) : Prop :=
 popO (SemP PG (convert T_int T_uint t1)) fun v1 =>
 popO (SemP PG (binOp BinOp.and T_uint v1 (Value.int IntKind.u64 31))) fun v2 =>
 popO (SemP PG (binOp BinOp.shl T_uint32 t0 v2)) fun v3 =>
 popO (SemP PG (binOp BinOp.sub T_uint (Value.int IntKind.u64 32) v2)) fun v4 =>
 popO (SemP PG (binOp BinOp.shr T_uint32 t0 v4)) fun v5 =>
 popO (SemP PG (binOp BinOp.or T_uint32 v3 v5)) fun v6 =>
 R v6 h0
def math_bits_RotateLeft32.ann : Ann := { b := fun i => match i with  | _ => #[], ord := fun i => match i with  | _ => [], keep := fun i => match i with  | _ => [], n := 17 }
theorem math_bits_RotateLeft32.eq (t0 : Value) (t1 : Value) (h0 : PH) (R : Value → PH → Prop) : codeF PG math_bits_RotateLeft32.ann 200 (bodyOf Tryd.f80) (endH PG Tryd.f80 R) (fun t => (#[t0, t1] : Array Value).getD t undef) h0 = math_bits_RotateLeft32 t0 t1 h0 R := by kernel_rfl
theorem math_bits_RotateLeft32.call {t0 : Value} {t1 : Value} {h0 : PH} {R : Value → PH → Prop} (H : math_bits_RotateLeft32 t0 t1 h0 R) : CallsH PG id_math_bits_RotateLeft32 #[t0, t1] h0 R :=
  callsF_by math_bits_RotateLeft32.ann 200 mix Tryd.func80 (by kernel_rfl) (by kernel_rfl) (by kernel_rfl) (by kernel_rfl) (by simp [Tryd.ntmps80]) (math_bits_RotateLeft32.eq t0 t1 h0 R) H

def sha_Hash_Sum_b10 (R : Value → PH → Prop) (n9 : List Value → PH → Prop) (t0 : Value) (t3 : Value) (t4 : Value) (t5 : Value) (h0 : PH) : Prop :=
 popO (SemP PG (binOp BinOp.geq T_int t5 (Value.int IntKind.i64 0))) fun v11 =>
 condV v11
 (popO (SemP PG (nilS t0)) fun v12 =>
 popO (SemP PG (Instr.fieldAt T_sha_Hash v12 2)) fun v13 =>
 popO (SemE PG h0 (Instr.loadAt T_int v13)) fun v14 =>
 popO (SemP PG (convert T_int T_uint64 v14)) fun v15 =>
 popO (SemP PG (binOp BinOp.mul T_uint64 v15 (Value.int IntKind.u64 8))) fun v16 =>
 popO (SemP PG (binOp BinOp.shr T_uint64 v16 t5)) fun v17 =>
 popO (SemP PG (convert T_uint64 T_uint8 v17)) fun v18 =>
 CallsH PG id_strings_Builder_WriteByte #[t4, v18] h0 fun v19 h20 =>
 popO (SemP PG (binOp BinOp.sub T_int t5 (Value.int IntKind.i64 8))) fun v21 =>
 n9 [t0, t3, t4, v21] h20)
 (popO (SemP PG (nilS t0)) fun v22 =>
 popO (SemP PG (Instr.fieldAt T_sha_Hash v22 2)) fun v23 =>
 popO (SemE PG h0 (Instr.loadAt T_int v23)) fun v24 =>
 popO (SemP PG (binOp BinOp.rem T_int v24 (Value.int IntKind.i64 64))) fun v25 =>
 popO (SemP PG (binOp BinOp.sub T_int (Value.int IntKind.i64 119) v25)) fun v26 =>
 popO (SemP PG (binOp BinOp.rem T_int v26 (Value.int IntKind.i64 64))) fun v27 =>
 CallsH PG id_strings_Repeat #[(Value.string { data := #[0] }), v27] h0 fun v28 h29 =>
 popO (SemP PG (binOp BinOp.add T_string (Value.string { data := #[128] }) v28)) fun v30 =>
 CallsH PG id_strings_Builder_String #[t4] h29 fun v31 h32 =>
 popO (SemP PG (binOp BinOp.add T_string v30 v31)) fun v33 =>
 CallsH PG id_sha_Hash_Write #[t3, v33] h32 fun v34 h35 =>
 popO (SemP PG (Instr.fieldAt T_sha_Hash t3 0)) fun v36 =>
 CallsH PG id_sha_state_digest #[v36] h35 fun v37 h38 =>
 R v37 h38)
def sha_Hash_Sum (t0 : Value) (h0 : PH) (R : Value → PH → Prop) : Prop :=
 popO (SemP PG (nilS t0)) fun v1 =>
 popO (SemE PG h0 (Instr.loadAt T_sha_Hash v1)) fun v2 =>
 ∀ r3, h0 r3 = none → bindH (PH.set h0 r3 (.cells (zcells PG T_sha_Hash) T_sha_Hash)) fun h4 =>
 SemH PG (storeS T_sha_Hash (Value.pointer (some ⟨r3, 0, none⟩)) v2) h4 fun v5 h6 =>
 ∀ r7, h6 r7 = none → bindH (PH.set h6 r7 (.cells (zcells PG T_strings_Builder) T_strings_Builder)) fun h8 =>
 LoopL [0, 3, 4, 5] (fun n9 ρ h => sha_Hash_Sum_b10 R n9 (ρ 0) (ρ 3) (ρ 4) (ρ 5) h) [t0, (Value.pointer (some ⟨r3, 0, none⟩)), (Value.pointer (some ⟨r7, 0, none⟩)), (Value.int IntKind.i64 56)] h8
def sha_Hash_Sum.ann : Ann := { b := fun i => match i with  | _ => #[], ord := fun i => match i with  | _ => [], keep := fun i => match i with | 4 => [0, 3, 4, 5] | _ => [], n := 37 }
theorem sha_Hash_Sum.eq (t0 : Value) (h0 : PH) (R : Value → PH → Prop) : codeF PG sha_Hash_Sum.ann 200 (bodyOf Tryd.f57) (endH PG Tryd.f57 R) (fun t => (#[t0] : Array Value).getD t undef) h0 = sha_Hash_Sum t0 h0 R := by kernel_rfl
theorem sha_Hash_Sum.call {t0 : Value} {h0 : PH} {R : Value → PH → Prop} (H : sha_Hash_Sum t0 h0 R) : CallsH PG id_sha_Hash_Sum #[t0] h0 R :=
  callsF_by sha_Hash_Sum.ann 200 mix Tryd.func57 (by kernel_rfl) (by kernel_rfl) (by kernel_rfl) (by kernel_rfl) (by simp [Tryd.ntmps57]) (sha_Hash_Sum.eq t0 h0 R) H

def strings_Builder_WriteByte (t0 : Value) (t1 : Value) (h0 : PH) (R : Value → PH → Prop) : Prop :=
 CallsH PG id_strings_Builder_copyCheck #[t0] h0 fun v1 h2 =>
 popO (SemP PG (nilS t0)) fun v3 =>
 popO (SemP PG (Instr.fieldAt T_strings_Builder v3 1)) fun v4 =>
 popO (SemE PG h2 (Instr.loadAt T_sl_uint8 v4)) fun v5 =>
 popO (SemA PG (Instr.buildSlice T_sl_uint8 1 #[(0, t1)])) fun x7 => ∀ r6, h2 r6 = none → popO (SemP PG (x7.2 r6)) fun v8 => bindH (PH.set h2 r6 x7.1) fun h9 =>
 SemH PG (Builtin.append_ #[T_sl_uint8, T_sl_uint8] T_sl_uint8 #[v5, v8]) h9 fun v10 h11 =>
 popO (SemP PG (nilS t0)) fun v12 =>
 popO (SemP PG (Instr.fieldAt T_strings_Builder v12 1)) fun v13 =>
 SemH PG (storeS T_sl_uint8 v13 v10) h11 fun v14 h15 =>
 R Value.nilIface h15
def strings_Builder_WriteByte.ann : Ann := { b := fun i => match i with  | _ => #[], ord := fun i => match i with  | _ => [], keep := fun i => match i with  | _ => [], n := 17 }
theorem strings_Builder_WriteByte.eq (t0 : Value) (t1 : Value) (h0 : PH) (R : Value → PH → Prop) : codeF PG strings_Builder_WriteByte.ann 200 (bodyOf Tryd.f66) (endH PG Tryd.f66 R) (fun t => (#[t0, t1] : Array Value).getD t undef) h0 = strings_Builder_WriteByte t0 t1 h0 R := by kernel_rfl
theorem strings_Builder_WriteByte.call {t0 : Value} {t1 : Value} {h0 : PH} {R : Value → PH → Prop} (H : strings_Builder_WriteByte t0 t1 h0 R) : CallsH PG id_strings_Builder_WriteByte #[t0, t1] h0 R :=
  callsF_by strings_Builder_WriteByte.ann 200 mix Tryd.func66 (by kernel_rfl) (by kernel_rfl) (by kernel_rfl) (by kernel_rfl) (by simp [Tryd.ntmps66]) (strings_Builder_WriteByte.eq t0 t1 h0 R) H

def strings_Builder_copyCheck (t0 : Value) (h0 : PH) (R : Value → PH → Prop) : Prop :=
 popO (SemP PG (nilS t0)) fun v1 =>
 popO (SemP PG (Instr.fieldAt T_strings_Builder v1 0)) fun v2 =>
 popO (SemE PG h0 (Instr.loadAt T_p_strings_Builder v2)) fun v3 =>
 popO (SemE PG h0 (binS BinOp.eql T_p_strings_Builder (.tmp 5) (.const (Value.pointer none)) v3 (Value.pointer none))) fun v4 =>
 condV v4
 (SemH PG (convert T_p_strings_Builder T_unsafe_Pointer t0) h0 fun v5 h6 =>
 CallsH PG id_internal_abi_NoEscape #[v5] h6 fun v7 h8 =>
 SemH PG (convert T_unsafe_Pointer T_p_strings_Builder v7) h8 fun v9 h10 =>
 popO (SemP PG (nilS t0)) fun v11 =>
 popO (SemP PG (Instr.fieldAt T_strings_Builder v11 0)) fun v12 =>
 SemH PG (storeS T_p_strings_Builder v12 v9) h10 fun v13 h14 =>
 R (Value.tuple #[]) h14)
 (popO (SemP PG (nilS t0)) fun v15 =>
 popO (SemP PG (Instr.fieldAt T_strings_Builder v15 0)) fun v16 =>
 popO (SemE PG h0 (Instr.loadAt T_p_strings_Builder v16)) fun v17 =>
 popO (SemE PG h0 (binS BinOp.neq T_p_strings_Builder (.tmp 17) (.tmp 18) v17 t0)) fun v18 =>
 condV v18
 (False)
 (R (Value.tuple #[]) h0))
def strings_Builder_copyCheck.ann : Ann := { b := fun i => match i with  | _ => #[], ord := fun i => match i with  | _ => [], keep := fun i => match i with  | _ => [], n := 20 }
theorem strings_Builder_copyCheck.eq (t0 : Value) (h0 : PH) (R : Value → PH → Prop) : codeF PG strings_Builder_copyCheck.ann 200 (bodyOf Tryd.f74) (endH PG Tryd.f74 R) (fun t => (#[t0] : Array Value).getD t undef) h0 = strings_Builder_copyCheck t0 h0 R := by kernel_rfl
theorem strings_Builder_copyCheck.call {t0 : Value} {h0 : PH} {R : Value → PH → Prop} (H : strings_Builder_copyCheck t0 h0 R) : CallsH PG id_strings_Builder_copyCheck #[t0] h0 R :=
  callsF_by strings_Builder_copyCheck.ann 200 mix Tryd.func74 (by kernel_rfl) (by kernel_rfl) (by kernel_rfl) (by kernel_rfl) (by simp [Tryd.ntmps74]) (strings_Builder_copyCheck.eq t0 h0 R) H

def strings_Repeat_b102 (R : Value → PH → Prop) (n101 : List Value → PH → Prop) (t7 : Value) (t8 : Value) (t9 : Value) (h0 : PH) : Prop :=
 CallsH PG id_strings_Builder_Len #[t9] h0 fun v103 h104 =>
 popO (SemP PG (binOp BinOp.lss T_int v103 t7)) fun v105 =>
 condV v105
 (CallsH PG id_strings_Builder_Len #[t9] h104 fun v106 h107 =>
 popO (SemP PG (binOp BinOp.sub T_int t7 v106)) fun v108 =>
 CallsH PG id_strings_Builder_Len #[t9] h107 fun v109 h110 =>
 popO (SemP PG (Builtin.min_ #[T_int, T_int, T_int] T_int #[v108, v109, t8])) fun v111 =>
 CallsH PG id_strings_Builder_String #[t9] h110 fun v112 h113 =>
 popO (SemP PG (Instr.sliceAt T_string v112 none (some v111) none)) fun v114 =>
 CallsH PG id_strings_Builder_WriteString #[t9, v114] h113 fun v115 h116 =>
 n101 [t7, t8, t9] h116)
 (CallsH PG id_strings_Builder_String #[t9] h104 fun v117 h118 =>
 R v117 h118)
def strings_Repeat_k94 (R : Value → PH → Prop) (t0 : Value) (t7 : Value) (t8 : Value) (h0 : PH) : Prop :=
 ∀ r95, h0 r95 = none → bindH (PH.set h0 r95 (.cells (zcells PG T_strings_Builder) T_strings_Builder)) fun h96 =>
 CallsH PG id_strings_Builder_Grow #[(Value.pointer (some ⟨r95, 0, none⟩)), t7] h96 fun v97 h98 =>
 CallsH PG id_strings_Builder_WriteString #[(Value.pointer (some ⟨r95, 0, none⟩)), t0] h98 fun v99 h100 =>
 LoopL [7, 8, 9] (fun n101 ρ h => strings_Repeat_b102 R n101 (ρ 7) (ρ 8) (ρ 9) h) [t7, t8, (Value.pointer (some ⟨r95, 0, none⟩))] h100
def strings_Repeat_k86 (R : Value → PH → Prop) (t0 : Value) (t7 : Value) (h0 : PH) : Prop :=
 popO (SemP PG (binOp BinOp.gtr T_int t7 (Value.int IntKind.i64 8192))) fun v87 =>
 condV v87
 (popO (SemP PG (Builtin.len_ #[T_string] T_int #[t0])) fun v88 =>
 popO (SemP PG (binOp BinOp.quo T_int (Value.int IntKind.i64 8192) v88)) fun v89 =>
 popO (SemP PG (Builtin.len_ #[T_string] T_int #[t0])) fun v90 =>
 popO (SemP PG (binOp BinOp.mul T_int v89 v90)) fun v91 =>
 popO (SemE PG h0 (binS BinOp.eql T_int (.tmp 103) (.const (Value.int IntKind.i64 0)) v91 (Value.int IntKind.i64 0))) fun v92 =>
 condV v92
 (popO (SemP PG (Builtin.len_ #[T_string] T_int #[t0])) fun v93 =>
 strings_Repeat_k94 R t0 t7 v93 h0)
 (strings_Repeat_k94 R t0 t7 v91 h0))
 (strings_Repeat_k94 R t0 t7 t7 h0)
def strings_Repeat_k85 (R : Value → PH → Prop) (t0 : Value) (t7 : Value) (h0 : PH) : Prop :=
 strings_Repeat_k86 R t0 t7 h0
def strings_Repeat_k29 (R : Value → PH → Prop) (t0 : Value) (t7 : Value) (t43 : Value) (h0 : PH) : Prop :=
 condV t43
 (popO (SemP PG (binOp BinOp.leq T_int t7 (Value.int IntKind.i64 128))) fun v30 =>
 gopV (yV v30) true (fun k33 => k33 t0 h0) h0 fun v31 h32 =>
 gopV (yV v30) true (fun k36 => CallsH PG id_strings_HasPrefix #[(Value.string { data := lit0 }), v31] h32 fun v37 h38 => k36 v37 h38) h32 fun v34 h35 =>
 popO (pickV v30 v34 (Value.bool false)) fun v39 =>
 condV v39
 (popO (SemP PG (Instr.sliceAt T_string (Value.string { data := lit0 }) none (some t7) none)) fun v40 =>
 R v40 h35)
 (popO (SemP PG (binOp BinOp.leq T_int t7 (Value.int IntKind.i64 128))) fun v41 =>
 gopV (yV v41) true (fun k44 => k44 t0 h35) h35 fun v42 h43 =>
 gopV (yV v41) true (fun k47 => CallsH PG id_strings_HasPrefix #[(Value.string { data := lit1 }), v42] h43 fun v48 h49 => k47 v48 h49) h43 fun v45 h46 =>
 popO (pickV v41 v45 (Value.bool false)) fun v50 =>
 condV v50
 (popO (SemP PG (Instr.sliceAt T_string (Value.string { data := lit1 }) none (some t7) none)) fun v51 =>
 R v51 h46)
 (popO (SemP PG (binOp BinOp.leq T_int t7 (Value.int IntKind.i64 64))) fun v52 =>
 gopV (yV v52) true (fun k55 => k55 t0 h46) h46 fun v53 h54 =>
 gopV (yV v52) true (fun k58 => CallsH PG id_strings_HasPrefix #[(Value.string { data := #[48, 48, 48, 48, 48, 48, 48, 48, 48, 48, 48, 48, 48, 48, 48, 48, 48, 48, 48, 48, 48, 48, 48, 48, 48, 48, 48, 48, 48, 48, 48, 48, 48, 48, 48, 48, 48, 48, 48, 48, 48, 48, 48, 48, 48, 48, 48, 48, 48, 48, 48, 48, 48, 48, 48, 48, 48, 48, 48, 48, 48, 48, 48, 48] }), v53] h54 fun v59 h60 => k58 v59 h60) h54 fun v56 h57 =>
 popO (pickV v52 v56 (Value.bool false)) fun v61 =>
 condV v61
 (popO (SemP PG (Instr.sliceAt T_string (Value.string { data := #[48, 48, 48, 48, 48, 48, 48, 48, 48, 48, 48, 48, 48, 48, 48, 48, 48, 48, 48, 48, 48, 48, 48, 48, 48, 48, 48, 48, 48, 48, 48, 48, 48, 48, 48, 48, 48, 48, 48, 48, 48, 48, 48, 48, 48, 48, 48, 48, 48, 48, 48, 48, 48, 48, 48, 48, 48, 48, 48, 48, 48, 48, 48, 48] }) none (some t7) none)) fun v62 =>
 R v62 h57)
 (popO (SemP PG (binOp BinOp.leq T_int t7 (Value.int IntKind.i64 128))) fun v63 =>
 gopV (yV v63) true (fun k66 => k66 t0 h57) h57 fun v64 h65 =>
 gopV (yV v63) true (fun k69 => CallsH PG id_strings_HasPrefix #[(Value.string { data := lit2 }), v64] h65 fun v70 h71 => k69 v70 h71) h65 fun v67 h68 =>
 popO (pickV v63 v67 (Value.bool false)) fun v72 =>
 condV v72
 (popO (SemP PG (Instr.sliceAt T_string (Value.string { data := lit2 }) none (some t7) none)) fun v73 =>
 R v73 h68)
 (popO (SemP PG (binOp BinOp.leq T_int t7 (Value.int IntKind.i64 64))) fun v74 =>
 gopV (yV v74) true (fun k77 => k77 t0 h68) h68 fun v75 h76 =>
 gopV (yV v74) true (fun k80 => CallsH PG id_strings_HasPrefix #[(Value.string { data := #[9, 9, 9, 9, 9, 9, 9, 9, 9, 9, 9, 9, 9, 9, 9, 9, 9, 9, 9, 9, 9, 9, 9, 9, 9, 9, 9, 9, 9, 9, 9, 9, 9, 9, 9, 9, 9, 9, 9, 9, 9, 9, 9, 9, 9, 9, 9, 9, 9, 9, 9, 9, 9, 9, 9, 9, 9, 9, 9, 9, 9, 9, 9, 9] }), v75] h76 fun v81 h82 => k80 v81 h82) h76 fun v78 h79 =>
 popO (pickV v74 v78 (Value.bool false)) fun v83 =>
 condV v83
 (popO (SemP PG (Instr.sliceAt T_string (Value.string { data := #[9, 9, 9, 9, 9, 9, 9, 9, 9, 9, 9, 9, 9, 9, 9, 9, 9, 9, 9, 9, 9, 9, 9, 9, 9, 9, 9, 9, 9, 9, 9, 9, 9, 9, 9, 9, 9, 9, 9, 9, 9, 9, 9, 9, 9, 9, 9, 9, 9, 9, 9, 9, 9, 9, 9, 9, 9, 9, 9, 9, 9, 9, 9, 9] }) none (some t7) none)) fun v84 =>
 R v84 h79)
 (strings_Repeat_k85 R t0 t7 h79))))))
 (strings_Repeat_k85 R t0 t7 h0)
def strings_Repeat_k23 (R : Value → PH → Prop) (t0 : Value) (t6 : Value) (h0 : PH) : Prop :=
 popO (SemP PG (convert T_uint T_int t6)) fun v24 =>
 popO (SemP PG (Builtin.len_ #[T_string] T_int #[t0])) fun v25 =>
 popO (SemE PG h0 (binS BinOp.eql T_int (.tmp 39) (.const (Value.int IntKind.i64 0)) v25 (Value.int IntKind.i64 0))) fun v26 =>
 condV v26
 (R (Value.string { data := #[] }) h0)
 (popO (SemP PG (Instr.index T_string t0 (Value.int IntKind.i64 0))) fun v27 =>
 popO (SemE PG h0 (binS BinOp.eql T_uint8 (.tmp 42) (.const (Value.int IntKind.u8 32)) v27 (Value.int IntKind.u8 32))) fun v28 =>
 condV v28
 (strings_Repeat_k29 R t0 v24 v28 h0)
 (popO (SemE PG h0 (binS BinOp.eql T_uint8 (.tmp 42) (.const (Value.int IntKind.u8 45)) v27 (Value.int IntKind.u8 45))) fun v119 =>
 condV v119
 (strings_Repeat_k29 R t0 v24 v119 h0)
 (popO (SemE PG h0 (binS BinOp.eql T_uint8 (.tmp 42) (.const (Value.int IntKind.u8 48)) v27 (Value.int IntKind.u8 48))) fun v120 =>
 condV v120
 (strings_Repeat_k29 R t0 v24 v120 h0)
 (popO (SemE PG h0 (binS BinOp.eql T_uint8 (.tmp 42) (.const (Value.int IntKind.u8 61)) v27 (Value.int IntKind.u8 61))) fun v121 =>
 condV v121
 (strings_Repeat_k29 R t0 v24 v121 h0)
 (popO (SemE PG h0 (binS BinOp.eql T_uint8 (.tmp 42) (.const (Value.int IntKind.u8 9)) v27 (Value.int IntKind.u8 9))) fun v122 =>
 strings_Repeat_k29 R t0 v24 v122 h0)))))
def strings_Repeat_k5 (R : Value → PH → Prop) (t0 : Value) (t1 : Value) (h0 : PH) : Prop :=
 popO (SemP PG (Builtin.len_ #[T_string] T_int #[t0])) fun v6 =>
 popO (SemP PG (convert T_int T_uint v6)) fun v7 =>
 popO (SemP PG (convert T_int T_uint t1)) fun v8 =>
 CallsH PG id_math_bits_Mul #[v7, v8] h0 fun v9 h10 =>
 popO (SemP PG (Instr.extract v9 0)) fun v11 =>
 popO (SemP PG (Instr.extract v9 1)) fun v12 =>
 popO (SemP PG (binOp BinOp.gtr T_uint v11 (Value.int IntKind.u64 0))) fun v13 =>
 gopV (yV v13) false (fun k16 => k16 v12 h10) h10 fun v14 h15 =>
 gopV (yV v13) false (fun k19 => popO (SemP PG (binOp BinOp.gtr T_uint v14 (Value.int IntKind.u64 9223372036854775807))) fun v20 => k19 v20 h15) h15 fun v17 h18 =>
 popO (pickV v13 (Value.bool true) v17) fun v21 =>
 condV v21
 (popO (SemP PG (Instr.makeInterface T_string (Value.string { data := #[115, 116, 114, 105, 110, 103, 115, 58, 32, 82, 101, 112, 101, 97, 116, 32, 111, 117, 116, 112, 117, 116, 32, 108, 101, 110, 103, 116, 104, 32, 111, 118, 101, 114, 102, 108, 111, 119] }))) fun v22 =>
 False)
 (strings_Repeat_k23 R t0 v12 h18)
def strings_Repeat (t0 : Value) (t1 : Value) (h0 : PH) (R : Value → PH → Prop) : Prop :=
 popO (SemE PG h0 (binS BinOp.eql T_int (.tmp 11) (.const (Value.int IntKind.i64 0)) t1 (Value.int IntKind.i64 0))) fun v1 =>
 condV v1
 (R (Value.string { data := #[] }) h0)
 (popO (SemE PG h0 (binS BinOp.eql T_int (.tmp 11) (.const (Value.int IntKind.i64 1)) t1 (Value.int IntKind.i64 1))) fun v2 =>
 condV v2
 (R t0 h0)
 (popO (SemP PG (binOp BinOp.lss T_int t1 (Value.int IntKind.i64 0))) fun v3 =>
 condV v3
 (popO (SemP PG (Instr.makeInterface T_string (Value.string { data := #[115, 116, 114, 105, 110, 103, 115, 58, 32, 110, 101, 103, 97, 116, 105, 118, 101, 32, 82, 101, 112, 101, 97, 116, 32, 99, 111, 117, 110, 116] }))) fun v4 =>
 False)
 (strings_Repeat_k5 R t0 t1 h0)))
def strings_Repeat.ann : Ann := { b := fun i => match i with  | _ => #[], ord := fun i => match i with  | _ => [], keep := fun i => match i with | 38 => [7, 8, 9] | _ => [], n := 125 }
theorem strings_Repeat.eq (t0 : Value) (t1 : Value) (h0 : PH) (R : Value → PH → Prop) : codeF PG strings_Repeat.ann 200 (bodyOf Tryd.f67) (endH PG Tryd.f67 R) (fun t => (#[t0, t1] : Array Value).getD t undef) h0 = strings_Repeat t0 t1 h0 R := by kernel_rfl
theorem strings_Repeat.call {t0 : Value} {t1 : Value} {h0 : PH} {R : Value → PH → Prop} (H : strings_Repeat t0 t1 h0 R) : CallsH PG id_strings_Repeat #[t0, t1] h0 R :=
  callsF_by strings_Repeat.ann 200 mix Tryd.func67 (by kernel_rfl) (by kernel_rfl) (by kernel_rfl) (by kernel_rfl) (by simp [Tryd.ntmps67]) (strings_Repeat.eq t0 t1 h0 R) H

def strings_Builder_String (t0 : Value) (h0 : PH) (R : Value → PH → Prop) : Prop :=
 popO (SemP PG (nilS t0)) fun v1 =>
 popO (SemP PG (Instr.fieldAt T_strings_Builder v1 1)) fun v2 =>
 popO (SemE PG h0 (Instr.loadAt T_sl_uint8 v2)) fun v3 =>
 popO (SemP PG (nilS t0)) fun v4 =>
 popO (SemP PG (Instr.fieldAt T_strings_Builder v4 1)) fun v5 =>
 popO (SemE PG h0 (Instr.loadAt T_sl_uint8 v5)) fun v6 =>
 popO (SemP PG (Builtin.len_ #[T_sl_uint8] T_int #[v6])) fun v7 =>
 SemH PG (Builtin.unsafeSliceData_ #[T_sl_uint8] T_p_uint8 #[v3]) h0 fun v8 h9 =>
 SemE PG h9 (Instr.loadAt T_sl_uint8 v5) = some v6 ∧ (SemH PG (Builtin.unsafeString_ #[T_p_uint8, T_int] T_string #[v8, v7]) h9 fun v10 h11 =>
 (R v10 h11))
def strings_Builder_String.ann : Ann := { b := fun i => match i with | 1 => #[0, 1, 3, 7, 15, 0, 32, 96, 224, 480, 1023, 2047] | _ => #[], ord := fun i => match i with | 1 => [0, 1, 2, 3, 5, 6, 7, 8, 9, 4, 10, 11] | _ => [], keep := fun i => match i with  | _ => [], n := 14 }
theorem strings_Builder_String.eq (t0 : Value) (h0 : PH) (R : Value → PH → Prop) : codeF PG strings_Builder_String.ann 200 (bodyOf Tryd.f68) (endH PG Tryd.f68 R) (fun t => (#[t0] : Array Value).getD t undef) h0 = strings_Builder_String t0 h0 R := by kernel_rfl
theorem strings_Builder_String.call {t0 : Value} {h0 : PH} {R : Value → PH → Prop} (H : strings_Builder_String t0 h0 R) : CallsH PG id_strings_Builder_String #[t0] h0 R :=
  callsF_by strings_Builder_String.ann 200 mix Tryd.func68 (by kernel_rfl) (by kernel_rfl) (by kernel_rfl) (by kernel_rfl) (by simp [Tryd.ntmps68]) (strings_Builder_String.eq t0 h0 R) H

def math_bits_Mul (t0 : Value) (t1 : Value) (h0 : PH) (R : Value → PH → Prop) : Prop :=
 condV (Value.bool false)
 (popO (SemP PG (convert T_uint T_uint32 t0)) fun v1 =>
 popO (SemP PG (convert T_uint T_uint32 t1)) fun v2 =>
 CallsH PG id_math_bits_Mul32 #[v1, v2] h0 fun v3 h4 =>
 popO (SemP PG (Instr.extract v3 0)) fun v5 =>
 popO (SemP PG (Instr.extract v3 1)) fun v6 =>
 popO (SemP PG (convert T_uint32 T_uint v5)) fun v7 =>
 popO (SemP PG (convert T_uint32 T_uint v6)) fun v8 =>
 R (Value.tuple #[v7, v8]) h4)
 (CallsH PG id_math_bits_Mul64 #[t0, t1] h0 fun v9 h10 =>
 popO (SemP PG (Instr.extract v9 0)) fun v11 =>
 popO (SemP PG (Instr.extract v9 1)) fun v12 =>
 R (Value.tuple #[v11, v12]) h10)
def math_bits_Mul.ann : Ann := { b := fun i => match i with  | _ => #[], ord := fun i => match i with  | _ => [], keep := fun i => match i with  | _ => [], n := 30 }
theorem math_bits_Mul.eq (t0 : Value) (t1 : Value) (h0 : PH) (R : Value → PH → Prop) : codeF PG math_bits_Mul.ann 200 (bodyOf Tryd.f75) (endH PG Tryd.f75 R) (fun t => (#[t0, t1] : Array Value).getD t undef) h0 = math_bits_Mul t0 t1 h0 R := by kernel_rfl
theorem math_bits_Mul.call {t0 : Value} {t1 : Value} {h0 : PH} {R : Value → PH → Prop} (H : math_bits_Mul t0 t1 h0 R) : CallsH PG id_math_bits_Mul #[t0, t1] h0 R :=
  callsF_by math_bits_Mul.ann 200 mix Tryd.func75 (by kernel_rfl) (by kernel_rfl) (by kernel_rfl) (by kernel_rfl) (by simp [Tryd.ntmps75]) (math_bits_Mul.eq t0 t1 h0 R) H

def math_bits_Mul32 (t0 : Value) (t1 : Value) (h0 : PH) (R : Value → PH → Prop) : Prop :=
 popO (SemP PG (convert T_uint32 T_uint64 t0)) fun v1 =>
 popO (SemP PG (convert T_uint32 T_uint64 t1)) fun v2 =>
 popO (SemP PG (binOp BinOp.mul T_uint64 v1 v2)) fun v3 =>
 popO (SemP PG (binOp BinOp.shr T_uint64 v3 (Value.int IntKind.u64 32))) fun v4 =>
 popO (SemP PG (convert T_uint64 T_uint32 v4)) fun v5 =>
 popO (SemP PG (convert T_uint64 T_uint32 v3)) fun v6 =>
 R (Value.tuple #[v5, v6]) h0
def math_bits_Mul32.ann : Ann := { b := fun i => match i with  | _ => #[], ord := fun i => match i with  | _ => [], keep := fun i => match i with  | _ => [], n := 17 }
theorem math_bits_Mul32.eq (t0 : Value) (t1 : Value) (h0 : PH) (R : Value → PH → Prop) : codeF PG math_bits_Mul32.ann 200 (bodyOf Tryd.f82) (endH PG Tryd.f82 R) (fun t => (#[t0, t1] : Array Value).getD t undef) h0 = math_bits_Mul32 t0 t1 h0 R := by kernel_rfl
theorem math_bits_Mul32.call {t0 : Value} {t1 : Value} {h0 : PH} {R : Value → PH → Prop} (H : math_bits_Mul32 t0 t1 h0 R) : CallsH PG id_math_bits_Mul32 #[t0, t1] h0 R :=
  callsF_by math_bits_Mul32.ann 200 mix Tryd.func82 (by kernel_rfl) (by kernel_rfl) (by kernel_rfl) (by kernel_rfl) (by simp [Tryd.ntmps82]) (math_bits_Mul32.eq t0 t1 h0 R) H

def math_bits_Mul64 (t0 : Value) (t1 : Value) (h0 : PH) (R : Value → PH → Prop) : Prop :=
 popO (SemP PG (binOp BinOp.and T_uint64 t0 (Value.int IntKind.u64 4294967295))) fun v1 =>
 popO (SemP PG (binOp BinOp.shr T_uint64 t0 (Value.int IntKind.u64 32))) fun v2 =>
 popO (SemP PG (binOp BinOp.and T_uint64 t1 (Value.int IntKind.u64 4294967295))) fun v3 =>
 popO (SemP PG (binOp BinOp.shr T_uint64 t1 (Value.int IntKind.u64 32))) fun v4 =>
 popO (SemP PG (binOp BinOp.mul T_uint64 v1 v3)) fun v5 =>
 popO (SemP PG (binOp BinOp.mul T_uint64 v2 v3)) fun v6 =>
 popO (SemP PG (binOp BinOp.shr T_uint64 v5 (Value.int IntKind.u64 32))) fun v7 =>
 popO (SemP PG (binOp BinOp.add T_uint64 v6 v7)) fun v8 =>
 popO (SemP PG (binOp BinOp.and T_uint64 v8 (Value.int IntKind.u64 4294967295))) fun v9 =>
 popO (SemP PG (binOp BinOp.shr T_uint64 v8 (Value.int IntKind.u64 32))) fun v10 =>
 popO (SemP PG (binOp BinOp.mul T_uint64 v1 v4)) fun v11 =>
 popO (SemP PG (binOp BinOp.add T_uint64 v9 v11)) fun v12 =>
 popO (SemP PG (binOp BinOp.mul T_uint64 v2 v4)) fun v13 =>
 popO (SemP PG (binOp BinOp.add T_uint64 v13 v10)) fun v14 =>
 popO (SemP PG (binOp BinOp.shr T_uint64 v12 (Value.int IntKind.u64 32))) fun v15 =>
 popO (SemP PG (binOp BinOp.add T_uint64 v14 v15)) fun v16 =>
 popO (SemP PG (binOp BinOp.mul T_uint64 t0 t1)) fun v17 =>
 R (Value.tuple #[v16, v17]) h0
def math_bits_Mul64.ann : Ann := { b := fun i => match i with  | _ => #[], ord := fun i => match i with  | _ => [], keep := fun i => match i with  | _ => [], n := 51 }
theorem math_bits_Mul64.eq (t0 : Value) (t1 : Value) (h0 : PH) (R : Value → PH → Prop) : codeF PG math_bits_Mul64.ann 200 (bodyOf Tryd.f83) (endH PG Tryd.f83 R) (fun t => (#[t0, t1] : Array Value).getD t undef) h0 = math_bits_Mul64 t0 t1 h0 R := by kernel_rfl
theorem math_bits_Mul64.call {t0 : Value} {t1 : Value} {h0 : PH} {R : Value → PH → Prop} (H : math_bits_Mul64 t0 t1 h0 R) : CallsH PG id_math_bits_Mul64 #[t0, t1] h0 R :=
  callsF_by math_bits_Mul64.ann 200 mix Tryd.func83 (by kernel_rfl) (by kernel_rfl) (by kernel_rfl) (by kernel_rfl) (by simp [Tryd.ntmps83]) (math_bits_Mul64.eq t0 t1 h0 R) H

def strings_HasPrefix (t0 : Value) (t1 : Value) (h0 : PH) (R : Value → PH → Prop) : Prop :=
 CallsH PG id_internal_stringslite_HasPrefix #[t0, t1] h0 fun v1 h2 =>
 R v1 h2
def strings_HasPrefix.ann : Ann := { b := fun i => match i with  | _ => #[], ord := fun i => match i with  | _ => [], keep := fun i => match i with  | _ => [], n := 8 }
theorem strings_HasPrefix.eq (t0 : Value) (t1 : Value) (h0 : PH) (R : Value → PH → Prop) : codeF PG strings_HasPrefix.ann 200 (bodyOf Tryd.f76) (endH PG Tryd.f76 R) (fun t => (#[t0, t1] : Array Value).getD t undef) h0 = strings_HasPrefix t0 t1 h0 R := by kernel_rfl
theorem strings_HasPrefix.call {t0 : Value} {t1 : Value} {h0 : PH} {R : Value → PH → Prop} (H : strings_HasPrefix t0 t1 h0 R) : CallsH PG id_strings_HasPrefix #[t0, t1] h0 R :=
  callsF_by strings_HasPrefix.ann 200 mix Tryd.func76 (by kernel_rfl) (by kernel_rfl) (by kernel_rfl) (by kernel_rfl) (by simp [Tryd.ntmps76]) (strings_HasPrefix.eq t0 t1 h0 R) H

def internal_stringslite_HasPrefix (t0 : Value) (t1 : Value) (h0 : PH) (R : Value → PH → Prop) : Prop :=
 popO (SemP PG (Builtin.len_ #[T_string] T_int #[t0])) fun v1 =>
 popO (SemP PG (Builtin.len_ #[T_string] T_int #[t1])) fun v2 =>
 popO (SemP PG (binOp BinOp.geq T_int v1 v2)) fun v3 =>
 gopV (yV v3) true (fun k6 => k6 t0 h0) h0 fun v4 h5 =>
 gopV (yV v3) true (fun k9 => k9 t1 h5) h5 fun v7 h8 =>
 gopV (yV v3) true (fun k12 => popO (SemP PG (Builtin.len_ #[T_string] T_int #[v7])) fun v13 => k12 v13 h8) h8 fun v10 h11 =>
 gopV (yV v3) true (fun k16 => popO (SemP PG (Instr.sliceAt T_string v4 none (some v10) none)) fun v17 => k16 v17 h11) h11 fun v14 h15 =>
 gopV (yV v3) true (fun k20 => k20 t1 h15) h15 fun v18 h19 =>
 gopV (yV v3) true (fun k23 => popO (SemE PG h19 (binS BinOp.eql T_string (.tmp 14) (.tmp 15) v14 v18)) fun v24 => k23 v24 h19) h19 fun v21 h22 =>
 popO (pickV v3 v21 (Value.bool false)) fun v25 =>
 R v25 h22
def internal_stringslite_HasPrefix.ann : Ann := { b := fun i => match i with  | _ => #[], ord := fun i => match i with  | _ => [], keep := fun i => match i with  | _ => [], n := 18 }
theorem internal_stringslite_HasPrefix.eq (t0 : Value) (t1 : Value) (h0 : PH) (R : Value → PH → Prop) : codeF PG internal_stringslite_HasPrefix.ann 200 (bodyOf Tryd.f84) (endH PG Tryd.f84 R) (fun t => (#[t0, t1] : Array Value).getD t undef) h0 = internal_stringslite_HasPrefix t0 t1 h0 R := by kernel_rfl
theorem internal_stringslite_HasPrefix.call {t0 : Value} {t1 : Value} {h0 : PH} {R : Value → PH → Prop} (H : internal_stringslite_HasPrefix t0 t1 h0 R) : CallsH PG id_internal_stringslite_HasPrefix #[t0, t1] h0 R :=
  callsF_by internal_stringslite_HasPrefix.ann 200 mix Tryd.func84 (by kernel_rfl) (by kernel_rfl) (by kernel_rfl) (by kernel_rfl) (by simp [Tryd.ntmps84]) (internal_stringslite_HasPrefix.eq t0 t1 h0 R) H

def strings_Builder_Grow_k5 (R : Value → PH → Prop) (t0 : Value) (t1 : Value) (h0 : PH) : Prop :=
 popO (SemP PG (nilS t0)) fun v6 =>
 popO (SemP PG (Instr.fieldAt T_strings_Builder v6 1)) fun v7 =>
 popO (SemE PG h0 (Instr.loadAt T_sl_uint8 v7)) fun v8 =>
 popO (SemP PG (Builtin.cap_ #[T_sl_uint8] T_int #[v8])) fun v9 =>
 popO (SemP PG (nilS t0)) fun v10 =>
 popO (SemP PG (Instr.fieldAt T_strings_Builder v10 1)) fun v11 =>
 popO (SemE PG h0 (Instr.loadAt T_sl_uint8 v11)) fun v12 =>
 popO (SemP PG (Builtin.len_ #[T_sl_uint8] T_int #[v12])) fun v13 =>
 popO (SemP PG (binOp BinOp.sub T_int v9 v13)) fun v14 =>
 popO (SemP PG (binOp BinOp.lss T_int v14 t1)) fun v15 =>
 condV v15
 (CallsH PG id_strings_Builder_grow #[t0, t1] h0 fun v16 h17 =>
 R (Value.tuple #[]) h17)
 (R (Value.tuple #[]) h0)
def strings_Builder_Grow (t0 : Value) (t1 : Value) (h0 : PH) (R : Value → PH → Prop) : Prop :=
 CallsH PG id_strings_Builder_copyCheck #[t0] h0 fun v1 h2 =>
 popO (SemP PG (binOp BinOp.lss T_int t1 (Value.int IntKind.i64 0))) fun v3 =>
 condV v3
 (popO (SemP PG (Instr.makeInterface T_string (Value.string { data := #[115, 116, 114, 105, 110, 103, 115, 46, 66, 117, 105, 108, 100, 101, 114, 46, 71, 114, 111, 119, 58, 32, 110, 101, 103, 97, 116, 105, 118, 101, 32, 99, 111, 117, 110, 116] }))) fun v4 =>
 False)
 (strings_Builder_Grow_k5 R t0 t1 h2)
def strings_Builder_Grow.ann : Ann := { b := fun i => match i with | 3 => #[0, 1, 3, 7, 15, 0, 32, 96, 224, 480, 1023, 0, 4095] | _ => #[], ord := fun i => match i with | 3 => [0, 1, 2, 3, 4, 5, 6, 7, 8, 9, 10, 11, 12] | _ => [], keep := fun i => match i with  | _ => [], n := 25 }
theorem strings_Builder_Grow.eq (t0 : Value) (t1 : Value) (h0 : PH) (R : Value → PH → Prop) : codeF PG strings_Builder_Grow.ann 200 (bodyOf Tryd.f77) (endH PG Tryd.f77 R) (fun t => (#[t0, t1] : Array Value).getD t undef) h0 = strings_Builder_Grow t0 t1 h0 R := by kernel_rfl
theorem strings_Builder_Grow.call {t0 : Value} {t1 : Value} {h0 : PH} {R : Value → PH → Prop} (H : strings_Builder_Grow t0 t1 h0 R) : CallsH PG id_strings_Builder_Grow #[t0, t1] h0 R :=
  callsF_by strings_Builder_Grow.ann 200 mix Tryd.func77 (by kernel_rfl) (by kernel_rfl) (by kernel_rfl) (by kernel_rfl) (by simp [Tryd.ntmps77]) (strings_Builder_Grow.eq t0 t1 h0 R) H

def strings_Builder_grow (t0 : Value) (t1 : Value) (h0 : PH) (R : Value → PH → Prop) : Prop :=
 popO (SemP PG (nilS t0)) fun v1 =>
 popO (SemP PG (Instr.fieldAt T_strings_Builder v1 1)) fun v2 =>
 popO (SemE PG h0 (Instr.loadAt T_sl_uint8 v2)) fun v3 =>
 popO (SemP PG (Builtin.cap_ #[T_sl_uint8] T_int #[v3])) fun v4 =>
 popO (SemP PG (binOp BinOp.mul T_int (Value.int IntKind.i64 2) v4)) fun v5 =>
 popO (SemP PG (binOp BinOp.add T_int v5 t1)) fun v6 =>
 popO (SemP PG (nilS t0)) fun v7 =>
 popO (SemP PG (Instr.fieldAt T_strings_Builder v7 1)) fun v8 =>
 popO (SemE PG h0 (Instr.loadAt T_sl_uint8 v8)) fun v9 =>
 popO (SemP PG (Builtin.len_ #[T_sl_uint8] T_int #[v9])) fun v10 =>
 CallsH PG id_internal_bytealg_MakeNoZero #[v6] h0 fun v11 h12 =>
 SemE PG h12 (Instr.loadAt T_sl_uint8 v8) = some v9 ∧ (popO (SemP PG (Instr.sliceAt T_sl_uint8 v11 none (some v10) none)) fun v13 =>
 popO (SemP PG (nilS t0)) fun v14 =>
 popO (SemP PG (Instr.fieldAt T_strings_Builder v14 1)) fun v15 =>
 popO (SemE PG h12 (Instr.loadAt T_sl_uint8 v15)) fun v16 =>
 SemH PG (Builtin.copy_ #[T_sl_uint8, T_sl_uint8] T_int #[v13, v16]) h12 fun v17 h18 =>
 popO (SemP PG (nilS t0)) fun v19 =>
 popO (SemP PG (Instr.fieldAt T_strings_Builder v19 1)) fun v20 =>
 SemH PG (storeS T_sl_uint8 v20 v13) h18 fun v21 h22 =>
 R (Value.tuple #[]) h22)
def strings_Builder_grow.ann : Ann := { b := fun i => match i with | 0 => #[0, 1, 3, 7, 15, 31, 0, 127, 255, 0, 512, 1536, 3584, 7680, 16383, 32767] | _ => #[], ord := fun i => match i with | 0 => [0, 1, 2, 3, 4, 5, 6, 7, 9, 10, 11, 12, 13, 8, 14, 15] | _ => [], keep := fun i => match i with  | _ => [], n := 30 }
theorem strings_Builder_grow.eq (t0 : Value) (t1 : Value) (h0 : PH) (R : Value → PH → Prop) : codeF PG strings_Builder_grow.ann 200 (bodyOf Tryd.f85) (endH PG Tryd.f85 R) (fun t => (#[t0, t1] : Array Value).getD t undef) h0 = strings_Builder_grow t0 t1 h0 R := by kernel_rfl
theorem strings_Builder_grow.call {t0 : Value} {t1 : Value} {h0 : PH} {R : Value → PH → Prop} (H : strings_Builder_grow t0 t1 h0 R) : CallsH PG id_strings_Builder_grow #[t0, t1] h0 R :=
  callsF_by strings_Builder_grow.ann 200 mix Tryd.func85 (by kernel_rfl) (by kernel_rfl) (by kernel_rfl) (by kernel_rfl) (by simp [Tryd.ntmps85]) (strings_Builder_grow.eq t0 t1 h0 R) H

def strings_Builder_WriteString (t0 : Value) (t1 : Value) (h0 : PH) (R : Value → PH → Prop) : Prop :=
 CallsH PG id_strings_Builder_copyCheck #[t0] h0 fun v1 h2 =>
 popO (SemP PG (nilS t0)) fun v3 =>
 popO (SemP PG (Instr.fieldAt T_strings_Builder v3 1)) fun v4 =>
 popO (SemE PG h2 (Instr.loadAt T_sl_uint8 v4)) fun v5 =>
 SemH PG (Builtin.append_ #[T_sl_uint8, T_string] T_sl_uint8 #[v5, t1]) h2 fun v6 h7 =>
 popO (SemP PG (nilS t0)) fun v8 =>
 popO (SemP PG (Instr.fieldAt T_strings_Builder v8 1)) fun v9 =>
 SemH PG (storeS T_sl_uint8 v9 v6) h7 fun v10 h11 =>
 popO (SemP PG (Builtin.len_ #[T_string] T_int #[t1])) fun v12 =>
 R (Value.tuple #[v12, Value.nilIface]) h11
def strings_Builder_WriteString.ann : Ann := { b := fun i => match i with  | _ => #[], ord := fun i => match i with  | _ => [], keep := fun i => match i with  | _ => [], n := 19 }
theorem strings_Builder_WriteString.eq (t0 : Value) (t1 : Value) (h0 : PH) (R : Value → PH → Prop) : codeF PG strings_Builder_WriteString.ann 200 (bodyOf Tryd.f78) (endH PG Tryd.f78 R) (fun t => (#[t0, t1] : Array Value).getD t undef) h0 = strings_Builder_WriteString t0 t1 h0 R := by kernel_rfl
theorem strings_Builder_WriteString.call {t0 : Value} {t1 : Value} {h0 : PH} {R : Value → PH → Prop} (H : strings_Builder_WriteString t0 t1 h0 R) : CallsH PG id_strings_Builder_WriteString #[t0, t1] h0 R :=
  callsF_by strings_Builder_WriteString.ann 200 mix Tryd.func78 (by kernel_rfl) (by kernel_rfl) (by kernel_rfl) (by kernel_rfl) (by simp [Tryd.ntmps78]) (strings_Builder_WriteString.eq t0 t1 h0 R) H

def strings_Builder_Len (t0 : Value) (h0 : PH) (R : Value → PH → Prop) : Prop :=
 popO (SemP PG (nilS t0)) fun v1 =>
 popO (SemP PG (Instr.fieldAt T_strings_Builder v1 1)) fun v2 =>
 popO (SemE PG h0 (Instr.loadAt T_sl_uint8 v2)) fun v3 =>
 popO (SemP PG (Builtin.len_ #[T_sl_uint8] T_int #[v3])) fun v4 =>
 R v4 h0
def strings_Builder_Len.ann : Ann := { b := fun i => match i with  | _ => #[], ord := fun i => match i with  | _ => [], keep := fun i => match i with  | _ => [], n := 8 }
theorem strings_Builder_Len.eq (t0 : Value) (h0 : PH) (R : Value → PH → Prop) : codeF PG strings_Builder_Len.ann 200 (bodyOf Tryd.f79) (endH PG Tryd.f79 R) (fun t => (#[t0] : Array Value).getD t undef) h0 = strings_Builder_Len t0 h0 R := by kernel_rfl
theorem strings_Builder_Len.call {t0 : Value} {h0 : PH} {R : Value → PH → Prop} (H : strings_Builder_Len t0 h0 R) : CallsH PG id_strings_Builder_Len #[t0] h0 R :=
  callsF_by strings_Builder_Len.ann 200 mix Tryd.func79 (by kernel_rfl) (by kernel_rfl) (by kernel_rfl) (by kernel_rfl) (by simp [Tryd.ntmps79]) (strings_Builder_Len.eq t0 h0 R) H

def sha_state_digest_b11 (R : Value → PH → Prop) (n6 : List Value → PH → Prop) (n10 : List Value → PH → Prop) (t3 : Value) (t5 : Value) (t6 : Value) (t10 : Value) (t11 : Value) (h0 : PH) : Prop :=
 popO (SemP PG (binOp BinOp.geq T_int t6 (Value.int IntKind.i64 0))) fun v12 =>
 condV v12
 (popO (SemP PG (binOp BinOp.shr T_uint32 t5 t6)) fun v13 =>
 popO (SemP PG (convert T_uint32 T_uint8 v13)) fun v14 =>
 CallsH PG id_strings_Builder_WriteByte #[t3, v14] h0 fun v15 h16 =>
 popO (SemP PG (binOp BinOp.sub T_int t6 (Value.int IntKind.i64 8))) fun v17 =>
 n10 [t3, t5, v17, t10, t11] h16)
 (popO (SemP PG (binOp BinOp.add T_int t11 (Value.int IntKind.i64 1))) fun v18 =>
 n6 [t3, t10, v18] h0)
def sha_state_digest_b7 (R : Value → PH → Prop) (n6 : List Value → PH → Prop) (t3 : Value) (t10 : Value) (t11 : Value) (h0 : PH) : Prop :=
 popO (SemP PG (binOp BinOp.lss T_int t11 (Value.int IntKind.i64 8))) fun v8 =>
 condV v8
 (popO (SemP PG (Instr.index T_8_uint32 t10 t11)) fun v9 =>
 LoopL [3, 5, 6, 10, 11] (fun n10 ρ h => sha_state_digest_b11 R n6 n10 (ρ 3) (ρ 5) (ρ 6) (ρ 10) (ρ 11) h) [t3, v9, (Value.int IntKind.i64 24), t10, t11] h0)
 (CallsH PG id_strings_Builder_String #[t3] h0 fun v19 h20 =>
 R v19 h20)
def sha_state_digest (t0 : Value) (h0 : PH) (R : Value → PH → Prop) : Prop :=
 ∀ r1, h0 r1 = none → bindH (PH.set h0 r1 (.cells (zcells PG T_strings_Builder) T_strings_Builder)) fun h2 =>
 popO (SemP PG (nilS t0)) fun v3 =>
 popO (SemP PG (Instr.fieldAt T_sha_state v3 0)) fun v4 =>
 popO (SemE PG h2 (Instr.loadAt T_8_uint32 v4)) fun v5 =>
 LoopL [3, 10, 11] (fun n6 ρ h => sha_state_digest_b7 R n6 (ρ 3) (ρ 10) (ρ 11) h) [(Value.pointer (some ⟨r1, 0, none⟩)), v5, (Value.int IntKind.i64 0)] h2
def sha_state_digest.ann : Ann := { b := fun i => match i with  | _ => #[], ord := fun i => match i with  | _ => [], keep := fun i => match i with | 3 => [3, 10, 11] | 6 => [3, 5, 6, 10, 11] | _ => [], n := 25 }
theorem sha_state_digest.eq (t0 : Value) (h0 : PH) (R : Value → PH → Prop) : codeF PG sha_state_digest.ann 200 (bodyOf Tryd.f69) (endH PG Tryd.f69 R) (fun t => (#[t0] : Array Value).getD t undef) h0 = sha_state_digest t0 h0 R := by kernel_rfl
theorem sha_state_digest.call {t0 : Value} {h0 : PH} {R : Value → PH → Prop} (H : sha_state_digest t0 h0 R) : CallsH PG id_sha_state_digest #[t0] h0 R :=
  callsF_by sha_state_digest.ann 200 mix Tryd.func69 (by kernel_rfl) (by kernel_rfl) (by kernel_rfl) (by kernel_rfl) (by simp [Tryd.ntmps69]) (sha_state_digest.eq t0 h0 R) H

def merkle_digest (t0 : Value) (h0 : PH) (R : Value → PH → Prop) : Prop :=
 popO (SemP PG (Builtin.len_ #[T_sl_api_Pair] T_int #[t0])) fun v1 =>
 popO (SemE PG h0 (binS BinOp.eql T_int (.tmp 5) (.const (Value.int IntKind.i64 1)) v1 (Value.int IntKind.i64 1))) fun v2 =>
 condV v2
 (popO (SemP PG (Instr.indexAt T_sl_api_Pair t0 (Value.int IntKind.i64 0))) fun v3 =>
 popO (SemE PG h0 (Instr.loadAt T_api_Pair v3)) fun v4 =>
 CallsH PG id_merkle_Leaf #[v4] h0 fun v5 h6 =>
 R v5 h6)
 (popO (SemP PG (Builtin.len_ #[T_sl_api_Pair] T_int #[t0])) fun v7 =>
 CallsH PG id_merkle_left #[v7] h0 fun v8 h9 =>
 popO (SemP PG (Instr.sliceAt T_sl_api_Pair t0 none (some v8) none)) fun v10 =>
 popO (SemP PG (Instr.sliceAt T_sl_api_Pair t0 (some v8) none none)) fun v11 =>
 CallsH PG id_merkle_digest #[v10] h9 fun v12 h13 =>
 (CallsH PG id_merkle_digest #[v11] h13 fun v14 h15 =>
 (CallsH PG id_merkle_both #[v12, v14] h15 fun v16 h17 =>
 (R v16 h17))))
def merkle_digest.ann : Ann := { b := fun i => match i with | 4 => #[0, 0, 3, 7, 0, 0, 48, 127, 255, 511] | _ => #[], ord := fun i => match i with | 4 => [0, 1, 2, 4, 5, 6, 3, 7, 8, 9] | _ => [], keep := fun i => match i with  | _ => [], n := 23 }
theorem merkle_digest.eq (t0 : Value) (h0 : PH) (R : Value → PH → Prop) : codeF PG merkle_digest.ann 200 (bodyOf Tryd.f33) (endH PG Tryd.f33 R) (fun t => (#[t0] : Array Value).getD t undef) h0 = merkle_digest t0 h0 R := by kernel_rfl
theorem merkle_digest.call {t0 : Value} {h0 : PH} {R : Value → PH → Prop} (H : merkle_digest t0 h0 R) : CallsH PG id_merkle_digest #[t0] h0 R :=
  callsF_by merkle_digest.ann 200 mix Tryd.func33 (by kernel_rfl) (by kernel_rfl) (by kernel_rfl) (by kernel_rfl) (by simp [Tryd.ntmps33]) (merkle_digest.eq t0 h0 R) H

def merkle_Leaf (t0 : Value) (h0 : PH) (R : Value → PH → Prop) : Prop :=
 ∀ r1, h0 r1 = none → bindH (PH.set h0 r1 (.cells (Value.cells t0) T_api_Pair)) fun h2 =>
 popO (SemP PG (Instr.fieldAt T_api_Pair (Value.pointer (some ⟨r1, 0, none⟩)) 0)) fun v3 =>
 popO (SemE PG h2 (Instr.loadAt T_string v3)) fun v4 =>
 popO (SemP PG (Builtin.len_ #[T_string] T_int #[v4])) fun v5 =>
 popO (SemP PG (Instr.fieldAt T_api_Pair (Value.pointer (some ⟨r1, 0, none⟩)) 0)) fun v6 =>
 popO (SemE PG h2 (Instr.loadAt T_string v6)) fun v7 =>
 popO (SemP PG (Instr.fieldAt T_api_Pair (Value.pointer (some ⟨r1, 0, none⟩)) 1)) fun v8 =>
 popO (SemE PG h2 (Instr.loadAt T_string v8)) fun v9 =>
 popO (SemP PG (Builtin.len_ #[T_string] T_int #[v9])) fun v10 =>
 popO (SemP PG (Instr.fieldAt T_api_Pair (Value.pointer (some ⟨r1, 0, none⟩)) 1)) fun v11 =>
 popO (SemE PG h2 (Instr.loadAt T_string v11)) fun v12 =>
 CallsH PG id_merkle_one #[v5] h2 fun v13 h14 =>
 SemE PG h14 (Instr.loadAt T_string v11) = some v12 ∧ SemE PG h14 (Instr.loadAt T_string v8) = some v9 ∧ SemE PG h14 (Instr.loadAt T_string v6) = some v7 ∧ (CallsH PG id_merkle_one #[v10] h14 fun v15 h16 =>
 SemE PG h16 (Instr.loadAt T_string v11) = some v12 ∧ SemE PG h16 (Instr.loadAt T_string v6) = some v7 ∧ (popO (SemA PG (Instr.buildSlice T_sl_string 5 #[(0, (Value.string { data := #[0] })), (1, v13), (2, v7), (3, v15), (4, v12)])) fun x18 => ∀ r17, h16 r17 = none → popO (SemP PG (x18.2 r17)) fun v19 => bindH (PH.set h16 r17 x18.1) fun h20 =>
 CallsH PG id_sha_Sum #[v19] h20 fun v21 h22 =>
 (R v21 h22)))
def merkle_Leaf.ann : Ann := { b := fun i => match i with | 1 => #[0, 1, 3, 7, 0, 16, 0, 64, 192, 463, 0, 1024, 4095, 8191, 16383] | _ => #[], ord := fun i => match i with | 1 => [0, 1, 2, 4, 5, 6, 7, 8, 10, 11, 3, 9, 12, 13, 14] | _ => [], keep := fun i => match i with  | _ => [], n := 17 }
theorem merkle_Leaf.eq (t0 : Value) (h0 : PH) (R : Value → PH → Prop) : codeF PG merkle_Leaf.ann 200 (bodyOf Tryd.f42) (endH PG Tryd.f42 R) (fun t => (#[t0] : Array Value).getD t undef) h0 = merkle_Leaf t0 h0 R := by kernel_rfl
theorem merkle_Leaf.call {t0 : Value} {h0 : PH} {R : Value → PH → Prop} (H : merkle_Leaf t0 h0 R) : CallsH PG id_merkle_Leaf #[t0] h0 R :=
  callsF_by merkle_Leaf.ann 200 mix Tryd.func42 (by kernel_rfl) (by kernel_rfl) (by kernel_rfl) (by kernel_rfl) (by simp [Tryd.ntmps42]) (merkle_Leaf.eq t0 h0 R) H

def merkle_left (t0 : Value) (h0 : PH) (R : Value → PH → Prop) : Prop :=
 popO (SemP PG (binOp BinOp.sub T_int t0 (Value.int IntKind.i64 1))) fun v1 =>
 popO (SemP PG (convert T_int T_uint v1)) fun v2 =>
 CallsH PG id_math_bits_Len #[v2] h0 fun v3 h4 =>
 popO (SemP PG (binOp BinOp.sub T_int v3 (Value.int IntKind.i64 1))) fun v5 =>
 popO (SemP PG (binOp BinOp.shl T_int (Value.int IntKind.i64 1) v5)) fun v6 =>
 R v6 h4
def merkle_left.ann : Ann := { b := fun i => match i with  | _ => #[], ord := fun i => match i with  | _ => [], keep := fun i => match i with  | _ => [], n := 9 }
theorem merkle_left.eq (t0 : Value) (h0 : PH) (R : Value → PH → Prop) : codeF PG merkle_left.ann 200 (bodyOf Tryd.f43) (endH PG Tryd.f43 R) (fun t => (#[t0] : Array Value).getD t undef) h0 = merkle_left t0 h0 R := by kernel_rfl
theorem merkle_left.call {t0 : Value} {h0 : PH} {R : Value → PH → Prop} (H : merkle_left t0 h0 R) : CallsH PG id_merkle_left #[t0] h0 R :=
  callsF_by merkle_left.ann 200 mix Tryd.func43 (by kernel_rfl) (by kernel_rfl) (by kernel_rfl) (by kernel_rfl) (by simp [Tryd.ntmps43]) (merkle_left.eq t0 h0 R) H

def math_bits_Len (t0 : Value) (h0 : PH) (R : Value → PH → Prop) : Prop :=
 condV (Value.bool false)
 (popO (SemP PG (convert T_uint T_uint32 t0)) fun v1 =>
 CallsH PG id_math_bits_Len32 #[v1] h0 fun v2 h3 =>
 R v2 h3)
 (CallsH PG id_math_bits_Len64 #[t0] h0 fun v4 h5 =>
 R v4 h5)
def math_bits_Len.ann : Ann := { b := fun i => match i with  | _ => #[], ord := fun i => match i with  | _ => [], keep := fun i => match i with  | _ => [], n := 8 }
theorem math_bits_Len.eq (t0 : Value) (h0 : PH) (R : Value → PH → Prop) : codeF PG math_bits_Len.ann 200 (bodyOf Tryd.f38) (endH PG Tryd.f38 R) (fun t => (#[t0] : Array Value).getD t undef) h0 = math_bits_Len t0 h0 R := by kernel_rfl
theorem math_bits_Len.call {t0 : Value} {h0 : PH} {R : Value → PH → Prop} (H : math_bits_Len t0 h0 R) : CallsH PG id_math_bits_Len #[t0] h0 R :=
  callsF_by math_bits_Len.ann 200 mix Tryd.func38 (by kernel_rfl) (by kernel_rfl) (by kernel_rfl) (by kernel_rfl) (by simp [Tryd.ntmps38]) (math_bits_Len.eq t0 h0 R) H

def math_bits_Len32_k7 (R : Value → PH → Prop) (t0 : Value) (t2 : Value) (h0 : PH) : Prop :=
 popO (SemP PG (convert T_uint32 T_uint8 t0)) fun v8 =>
 popO (SemP PG (Instr.index T_string (Value.string { data := lit3 }) v8)) fun v9 =>
 popO (SemP PG (convert T_uint8 T_int v9)) fun v10 =>
 popO (SemP PG (binOp BinOp.add T_int t2 v10)) fun v11 =>
 R v11 h0
def math_bits_Len32_k3 (R : Value → PH → Prop) (t0 : Value) (t2 : Value) (h0 : PH) : Prop :=
 popO (SemP PG (binOp BinOp.geq T_uint32 t0 (Value.int IntKind.u32 256))) fun v4 =>
 condV v4
 (popO (SemP PG (binOp BinOp.shr T_uint32 t0 (Value.int IntKind.u64 8))) fun v5 =>
 popO (SemP PG (binOp BinOp.add T_int t2 (Value.int IntKind.i64 8))) fun v6 =>
 math_bits_Len32_k7 R v5 v6 h0)
 (math_bits_Len32_k7 R t0 t2 h0)
def math_bits_Len32 (t0 : Value) (h0 : PH) (R : Value → PH → Prop) : Prop :=
 popO (SemP PG (binOp BinOp.geq T_uint32 t0 (Value.int IntKind.u32 65536))) fun v1 =>
 condV v1
 (popO (SemP PG (binOp BinOp.shr T_uint32 t0 (Value.int IntKind.u64 16))) fun v2 =>
 math_bits_Len32_k3 R v2 (Value.int IntKind.i64 16) h0)
 (math_bits_Len32_k3 R t0 (Value.int IntKind.i64 0) h0)
def math_bits_Len32.ann : Ann := { b := fun i => match i with  | _ => #[], ord := fun i => match i with  | _ => [], keep := fun i => match i with  | _ => [], n := 19 }
theorem math_bits_Len32.eq (t0 : Value) (h0 : PH) (R : Value → PH → Prop) : codeF PG math_bits_Len32.ann 200 (bodyOf Tryd.f53) (endH PG Tryd.f53 R) (fun t => (#[t0] : Array Value).getD t undef) h0 = math_bits_Len32 t0 h0 R := by kernel_rfl
theorem math_bits_Len32.call {t0 : Value} {h0 : PH} {R : Value → PH → Prop} (H : math_bits_Len32 t0 h0 R) : CallsH PG id_math_bits_Len32 #[t0] h0 R :=
  callsF_by math_bits_Len32.ann 200 mix Tryd.func53 (by kernel_rfl) (by kernel_rfl) (by kernel_rfl) (by kernel_rfl) (by simp [Tryd.ntmps53]) (math_bits_Len32.eq t0 h0 R) H

def math_bits_Len64_k11 (R : Value → PH → Prop) (t0 : Value) (t2 : Value) (h0 : PH) : Prop :=
 popO (SemP PG (convert T_uint64 T_uint8 t0)) fun v12 =>
 popO (SemP PG (Instr.index T_string (Value.string { data := lit3 }) v12)) fun v13 =>
 popO (SemP PG (convert T_uint8 T_int v13)) fun v14 =>
 popO (SemP PG (binOp BinOp.add T_int t2 v14)) fun v15 =>
 R v15 h0
def math_bits_Len64_k7 (R : Value → PH → Prop) (t0 : Value) (t2 : Value) (h0 : PH) : Prop :=
 popO (SemP PG (binOp BinOp.geq T_uint64 t0 (Value.int IntKind.u64 256))) fun v8 =>
 condV v8
 (popO (SemP PG (binOp BinOp.shr T_uint64 t0 (Value.int IntKind.u64 8))) fun v9 =>
 popO (SemP PG (binOp BinOp.add T_int t2 (Value.int IntKind.i64 8))) fun v10 =>
 math_bits_Len64_k11 R v9 v10 h0)
 (math_bits_Len64_k11 R t0 t2 h0)
def math_bits_Len64_k3 (R : Value → PH → Prop) (t0 : Value) (t2 : Value) (h0 : PH) : Prop :=
 popO (SemP PG (binOp BinOp.geq T_uint64 t0 (Value.int IntKind.u64 65536))) fun v4 =>
 condV v4
 (popO (SemP PG (binOp BinOp.shr T_uint64 t0 (Value.int IntKind.u64 16))) fun v5 =>
 popO (SemP PG (binOp BinOp.add T_int t2 (Value.int IntKind.i64 16))) fun v6 =>
 math_bits_Len64_k7 R v5 v6 h0)
 (math_bits_Len64_k7 R t0 t2 h0)
def math_bits_Len64 (t0 : Value) (h0 : PH) (R : Value → PH → Prop) : Prop :=
 popO (SemP PG (binOp BinOp.geq T_uint64 t0 (Value.int IntKind.u64 4294967296))) fun v1 =>
 condV v1
 (popO (SemP PG (binOp BinOp.shr T_uint64 t0 (Value.int IntKind.u64 32))) fun v2 =>
 math_bits_Len64_k3 R v2 (Value.int IntKind.i64 32) h0)
 (math_bits_Len64_k3 R t0 (Value.int IntKind.i64 0) h0)
def math_bits_Len64.ann : Ann := { b := fun i => match i with  | _ => #[], ord := fun i => match i with  | _ => [], keep := fun i => match i with  | _ => [], n := 25 }
theorem math_bits_Len64.eq (t0 : Value) (h0 : PH) (R : Value → PH → Prop) : codeF PG math_bits_Len64.ann 200 (bodyOf Tryd.f54) (endH PG Tryd.f54 R) (fun t => (#[t0] : Array Value).getD t undef) h0 = math_bits_Len64 t0 h0 R := by kernel_rfl
theorem math_bits_Len64.call {t0 : Value} {h0 : PH} {R : Value → PH → Prop} (H : math_bits_Len64 t0 h0 R) : CallsH PG id_math_bits_Len64 #[t0] h0 R :=
  callsF_by math_bits_Len64.ann 200 mix Tryd.func54 (by kernel_rfl) (by kernel_rfl) (by kernel_rfl) (by kernel_rfl) (by simp [Tryd.ntmps54]) (math_bits_Len64.eq t0 h0 R) H

def merkle_both (t0 : Value) (t1 : Value) (h0 : PH) (R : Value → PH → Prop) : Prop :=
 popO (SemA PG (Instr.buildSlice T_sl_string 3 #[(0, (Value.string { data := #[1] })), (1, t0), (2, t1)])) fun x2 => ∀ r1, h0 r1 = none → popO (SemP PG (x2.2 r1)) fun v3 => bindH (PH.set h0 r1 x2.1) fun h4 =>
 CallsH PG id_sha_Sum #[v3] h4 fun v5 h6 =>
 R v5 h6
def merkle_both.ann : Ann := { b := fun i => match i with  | _ => #[], ord := fun i => match i with  | _ => [], keep := fun i => match i with  | _ => [], n := 9 }
theorem merkle_both.eq (t0 : Value) (t1 : Value) (h0 : PH) (R : Value → PH → Prop) : codeF PG merkle_both.ann 200 (bodyOf Tryd.f44) (endH PG Tryd.f44 R) (fun t => (#[t0, t1] : Array Value).getD t undef) h0 = merkle_both t0 t1 h0 R := by kernel_rfl
theorem merkle_both.call {t0 : Value} {t1 : Value} {h0 : PH} {R : Value → PH → Prop} (H : merkle_both t0 t1 h0 R) : CallsH PG id_merkle_both #[t0, t1] h0 R :=
  callsF_by merkle_both.ann 200 mix Tryd.func44 (by kernel_rfl) (by kernel_rfl) (by kernel_rfl) (by kernel_rfl) (by simp [Tryd.ntmps44]) (merkle_both.eq t0 t1 h0 R) H

def store_Store_At (t0 : Value) (t1 : Value) (h0 : PH) (R : Value → PH → Prop) : Prop :=
 CallsH PG id_store_Store_at #[t0, t1] h0 fun v1 h2 =>
 popO (SemP PG (Instr.extract v1 0)) fun v3 =>
 popO (SemP PG (Instr.extract v1 1)) fun v4 =>
 ∀ r5, h2 r5 = none → bindH (PH.set h2 r5 (.cells (zcells PG T_store_block) T_store_block)) fun h6 =>
 SemH PG (storeS T_store_block (Value.pointer (some ⟨r5, 0, none⟩)) v3) h6 fun v7 h8 =>
 popO (SemP PG (Instr.fieldAt T_store_block (Value.pointer (some ⟨r5, 0, none⟩)) 0)) fun v9 =>
 popO (SemE PG h8 (Instr.loadAt T_store_sorted v9)) fun v10 =>
 CallsH PG id_store_sorted_pairs #[v10] h8 fun v11 h12 =>
 R (Value.tuple #[v11, v4]) h12
def store_Store_At.ann : Ann := { b := fun i => match i with  | _ => #[], ord := fun i => match i with  | _ => [], keep := fun i => match i with  | _ => [], n := 18 }
theorem store_Store_At.eq (t0 : Value) (t1 : Value) (h0 : PH) (R : Value → PH → Prop) : codeF PG store_Store_At.ann 200 (bodyOf Tryd.f13) (endH PG Tryd.f13 R) (fun t => (#[t0, t1] : Array Value).getD t undef) h0 = store_Store_At t0 t1 h0 R := by kernel_rfl
theorem store_Store_At.call {t0 : Value} {t1 : Value} {h0 : PH} {R : Value → PH → Prop} (H : store_Store_At t0 t1 h0 R) : CallsH PG id_store_Store_At #[t0, t1] h0 R :=
  callsF_by store_Store_At.ann 200 mix Tryd.func13 (by kernel_rfl) (by kernel_rfl) (by kernel_rfl) (by kernel_rfl) (by simp [Tryd.ntmps13]) (store_Store_At.eq t0 t1 h0 R) H

def store_Store_at (t0 : Value) (t1 : Value) (h0 : PH) (R : Value → PH → Prop) : Prop :=
 ∀ r1, h0 r1 = none → bindH (PH.set h0 r1 (.cells (zcells PG T_store_block) T_store_block)) fun h2 =>
 popO (SemP PG (nilS t0)) fun v3 =>
 popO (SemP PG (Instr.fieldAt T_store_Store v3 2)) fun v4 =>
 popO (SemE PG h2 (Instr.loadAt T_uint64 v4)) fun v5 =>
 popO (SemP PG (binOp BinOp.sub T_uint64 v5 t1)) fun v6 =>
 popO (SemP PG (nilS t0)) fun v7 =>
 popO (SemP PG (Instr.fieldAt T_store_Store v7 2)) fun v8 =>
 popO (SemE PG h2 (Instr.loadAt T_uint64 v8)) fun v9 =>
 popO (SemP PG (binOp BinOp.gtr T_uint64 t1 v9)) fun v10 =>
 gopV (yV v10) false (fun k13 => k13 v6 h2) h2 fun v11 h12 =>
 gopV (yV v10) false (fun k16 => k16 t0 h12) h12 fun v14 h15 =>
 gopV (yV v10) false (fun k19 => popO (SemP PG (nilS v14)) fun v20 => k19 v20 h15) h15 fun v17 h18 =>
 gopV (yV v10) false (fun k23 => popO (SemP PG (Instr.fieldAt T_store_Store v17 1)) fun v24 => k23 v24 h18) h18 fun v21 h22 =>
 gopV (yV v10) false (fun k27 => popO (SemE PG h22 (Instr.loadAt T_sl_store_block v21)) fun v28 => k27 v28 h22) h22 fun v25 h26 =>
 gopV (yV v10) false (fun k31 => popO (SemP PG (Builtin.len_ #[T_sl_store_block] T_int #[v25])) fun v32 => k31 v32 h26) h26 fun v29 h30 =>
 gopV (yV v10) false (fun k35 => popO (SemP PG (convert T_int T_uint64 v29)) fun v36 => k35 v36 h30) h30 fun v33 h34 =>
 gopV (yV v10) false (fun k39 => popO (SemP PG (binOp BinOp.geq T_uint64 v11 v33)) fun v40 => k39 v40 h34) h34 fun v37 h38 =>
 popO (pickV v10 (Value.bool true) v37) fun v41 =>
 condV v41
 (popO (SemP PG (Instr.build T_store_block #[])) fun v42 =>
 SemH PG (storeS T_store_block (Value.pointer (some ⟨r1, 0, none⟩)) v42) h38 fun v43 h44 =>
 popO (SemE PG h44 (Instr.loadAt T_store_block (Value.pointer (some ⟨r1, 0, none⟩)))) fun v45 =>
 R (Value.tuple #[v45, (Value.int IntKind.i64 3)]) h44)
 (popO (SemP PG (nilS t0)) fun v46 =>
 popO (SemP PG (Instr.fieldAt T_store_Store v46 1)) fun v47 =>
 popO (SemE PG h38 (Instr.loadAt T_sl_store_block v47)) fun v48 =>
 popO (SemP PG (nilS t0)) fun v49 =>
 popO (SemP PG (Instr.fieldAt T_store_Store v49 1)) fun v50 =>
 popO (SemE PG h38 (Instr.loadAt T_sl_store_block v50)) fun v51 =>
 popO (SemP PG (Builtin.len_ #[T_sl_store_block] T_int #[v51])) fun v52 =>
 popO (SemP PG (convert T_int T_uint64 v52)) fun v53 =>
 popO (SemP PG (binOp BinOp.sub T_uint64 v53 (Value.int IntKind.u64 1))) fun v54 =>
 popO (SemP PG (binOp BinOp.sub T_uint64 v54 v6)) fun v55 =>
 popO (SemP PG (Instr.indexAt T_sl_store_block v48 v55)) fun v56 =>
 popO (SemE PG h38 (Instr.loadAt T_store_block v56)) fun v57 =>
 SemH PG (storeS T_store_block (Value.pointer (some ⟨r1, 0, none⟩)) v57) h38 fun v58 h59 =>
 (popO (SemE PG h59 (Instr.loadAt T_store_block (Value.pointer (some ⟨r1, 0, none⟩)))) fun v60 =>
 R (Value.tuple #[v60, (Value.int IntKind.i64 0)]) h59))
def store_Store_at.ann : Ann := { b := fun i => match i with | 4 => #[0, 1, 3, 7, 0, 16, 48, 112, 240, 496, 1008, 0, 4080, 8191, 16383, 32767, 65535] | _ => #[], ord := fun i => match i with | 4 => [0, 1, 2, 3, 4, 5, 6, 7, 8, 9, 10, 11, 12, 13, 14, 15, 16] | _ => [], keep := fun i => match i with  | _ => [], n := 45 }
theorem store_Store_at.eq (t0 : Value) (t1 : Value) (h0 : PH) (R : Value → PH → Prop) : codeF PG store_Store_at.ann 200 (bodyOf Tryd.f27) (endH PG Tryd.f27 R) (fun t => (#[t0, t1] : Array Value).getD t undef) h0 = store_Store_at t0 t1 h0 R := by kernel_rfl
theorem store_Store_at.call {t0 : Value} {t1 : Value} {h0 : PH} {R : Value → PH → Prop} (H : store_Store_at t0 t1 h0 R) : CallsH PG id_store_Store_at #[t0, t1] h0 R :=
  callsF_by store_Store_at.ann 200 mix Tryd.func27 (by kernel_rfl) (by kernel_rfl) (by kernel_rfl) (by kernel_rfl) (by simp [Tryd.ntmps27]) (store_Store_at.eq t0 t1 h0 R) H

def store_sorted_pairs (t0 : Value) (h0 : PH) (R : Value → PH → Prop) : Prop :=
 ∀ r1, h0 r1 = none → bindH (PH.set h0 r1 (.cells (Value.cells t0) T_store_sorted)) fun h2 =>
 popO (SemP PG (Instr.fieldAt T_store_sorted (Value.pointer (some ⟨r1, 0, none⟩)) 0)) fun v3 =>
 popO (SemE PG h2 (Instr.loadAt T_sl_api_Pair v3)) fun v4 =>
 CallsH PG id_slices_Clone_sl_api_Pair_api_Pair #[v4] h2 fun v5 h6 =>
 R v5 h6
def store_sorted_pairs.ann : Ann := { b := fun i => match i with  | _ => #[], ord := fun i => match i with  | _ => [], keep := fun i => match i with  | _ => [], n := 6 }
theorem store_sorted_pairs.eq (t0 : Value) (h0 : PH) (R : Value → PH → Prop) : codeF PG store_sorted_pairs.ann 200 (bodyOf Tryd.f28) (endH PG Tryd.f28 R) (fun t => (#[t0] : Array Value).getD t undef) h0 = store_sorted_pairs t0 h0 R := by kernel_rfl
theorem store_sorted_pairs.call {t0 : Value} {h0 : PH} {R : Value → PH → Prop} (H : store_sorted_pairs t0 h0 R) : CallsH PG id_store_sorted_pairs #[t0] h0 R :=
  callsF_by store_sorted_pairs.ann 200 mix Tryd.func28 (by kernel_rfl) (by kernel_rfl) (by kernel_rfl) (by kernel_rfl) (by simp [Tryd.ntmps28]) (store_sorted_pairs.eq t0 h0 R) H

def slices_Clone_sl_api_Pair_api_Pair (t0 : Value) (h0 : PH) (R : Value → PH → Prop) : Prop :=
 popO (SemE PG h0 (binS BinOp.eql T_sl_api_Pair (.tmp 3) (.const (Value.slice none 0 0)) t0 (Value.slice none 0 0))) fun v1 =>
 condV v1
 (R (Value.slice none 0 0) h0)
 (popO (SemA PG (Instr.buildSlice T_sl_api_Pair 0 #[])) fun x3 => ∀ r2, h0 r2 = none → popO (SemP PG (x3.2 r2)) fun v4 => bindH (PH.set h0 r2 x3.1) fun h5 =>
 SemH PG (Builtin.append_ #[T_sl_api_Pair, T_sl_api_Pair] T_sl_api_Pair #[v4, t0]) h5 fun v6 h7 =>
 R v6 h7)
def slices_Clone_sl_api_Pair_api_Pair.ann : Ann := { b := fun i => match i with  | _ => #[], ord := fun i => match i with  | _ => [], keep := fun i => match i with  | _ => [], n := 8 }
theorem slices_Clone_sl_api_Pair_api_Pair.eq (t0 : Value) (h0 : PH) (R : Value → PH → Prop) : codeF PG slices_Clone_sl_api_Pair_api_Pair.ann 200 (bodyOf Tryd.f36) (endH PG Tryd.f36 R) (fun t => (#[t0] : Array Value).getD t undef) h0 = slices_Clone_sl_api_Pair_api_Pair t0 h0 R := by kernel_rfl
theorem slices_Clone_sl_api_Pair_api_Pair.call {t0 : Value} {h0 : PH} {R : Value → PH → Prop} (H : slices_Clone_sl_api_Pair_api_Pair t0 h0 R) : CallsH PG id_slices_Clone_sl_api_Pair_api_Pair #[t0] h0 R :=
  callsF_by slices_Clone_sl_api_Pair_api_Pair.ann 200 mix Tryd.func36 (by kernel_rfl) (by kernel_rfl) (by kernel_rfl) (by kernel_rfl) (by simp [Tryd.ntmps36]) (slices_Clone_sl_api_Pair_api_Pair.eq t0 h0 R) H

def store_Store_Blocks (t0 : Value) (h0 : PH) (R : Value → PH → Prop) : Prop :=
 popO (SemP PG (nilS t0)) fun v1 =>
 popO (SemP PG (Instr.fieldAt T_store_Store v1 1)) fun v2 =>
 popO (SemE PG h0 (Instr.loadAt T_sl_store_block v2)) fun v3 =>
 popO (SemP PG (Builtin.len_ #[T_sl_store_block] T_int #[v3])) fun v4 =>
 R v4 h0
def store_Store_Blocks.ann : Ann := { b := fun i => match i with  | _ => #[], ord := fun i => match i with  | _ => [], keep := fun i => match i with  | _ => [], n := 8 }
theorem store_Store_Blocks.eq (t0 : Value) (h0 : PH) (R : Value → PH → Prop) : codeF PG store_Store_Blocks.ann 200 (bodyOf Tryd.f15) (endH PG Tryd.f15 R) (fun t => (#[t0] : Array Value).getD t undef) h0 = store_Store_Blocks t0 h0 R := by kernel_rfl
theorem store_Store_Blocks.call {t0 : Value} {h0 : PH} {R : Value → PH → Prop} (H : store_Store_Blocks t0 h0 R) : CallsH PG id_store_Store_Blocks #[t0] h0 R :=
  callsF_by store_Store_Blocks.ann 200 mix Tryd.func15 (by kernel_rfl) (by kernel_rfl) (by kernel_rfl) (by kernel_rfl) (by simp [Tryd.ntmps15]) (store_Store_Blocks.eq t0 h0 R) H

def store_Store_Set (t0 : Value) (t1 : Value) (t2 : Value) (h0 : PH) (R : Value → PH → Prop) : Prop :=
 popO (SemP PG (Builtin.len_ #[T_string] T_int #[t1])) fun v1 =>
 popO (SemP PG (binOp BinOp.lss T_int v1 (Value.int IntKind.i64 1))) fun v2 =>
 gopV (yV v2) false (fun k5 => k5 t1 h0) h0 fun v3 h4 =>
 gopV (yV v2) false (fun k8 => popO (SemP PG (Builtin.len_ #[T_string] T_int #[v3])) fun v9 => k8 v9 h4) h4 fun v6 h7 =>
 gopV (yV v2) false (fun k12 => popO (SemP PG (binOp BinOp.gtr T_int v6 (Value.int IntKind.i64 16))) fun v13 => k12 v13 h7) h7 fun v10 h11 =>
 popO (pickV v2 (Value.bool true) v10) fun v14 =>
 gopV (yV v14) false (fun k17 => k17 t2 h11) h11 fun v15 h16 =>
 gopV (yV v14) false (fun k20 => popO (SemP PG (Builtin.len_ #[T_string] T_int #[v15])) fun v21 => k20 v21 h16) h16 fun v18 h19 =>
 gopV (yV v14) false (fun k24 => popO (SemP PG (binOp BinOp.gtr T_int v18 (Value.int IntKind.i64 64))) fun v25 => k24 v25 h19) h19 fun v22 h23 =>
 popO (pickV v14 (Value.bool true) v22) fun v26 =>
 condV v26
 (R (Value.int IntKind.i64 1) h23)
 (popO (SemP PG (nilS t0)) fun v27 =>
 popO (SemP PG (Instr.fieldAt T_store_Store v27 0)) fun v28 =>
 popO (SemE PG h23 (Instr.loadAt T_map_string_string v28)) fun v29 =>
 popO (SemE PG h23 (Instr.lookup T_map_string_string v29 t1 true)) fun v30 =>
 popO (SemP PG (Instr.extract v30 0)) fun v31 =>
 popO (SemP PG (Instr.extract v30 1)) fun v32 =>
 popO (SemP PG (Op.unary UnOp.not v32)) fun v33 =>
 gopV (yV v33) true (fun k36 => k36 t0 h23) h23 fun v34 h35 =>
 gopV (yV v33) true (fun k39 => popO (SemP PG (nilS v34)) fun v40 => k39 v40 h35) h35 fun v37 h38 =>
 gopV (yV v33) true (fun k43 => popO (SemP PG (Instr.fieldAt T_store_Store v37 0)) fun v44 => k43 v44 h38) h38 fun v41 h42 =>
 gopV (yV v33) true (fun k47 => popO (SemE PG h42 (Instr.loadAt T_map_string_string v41)) fun v48 => k47 v48 h42) h42 fun v45 h46 =>
 gopV (yV v33) true (fun k51 => popO (SemE PG h46 (Builtin.len_ #[T_map_string_string] T_int #[v45])) fun v52 => k51 v52 h46) h46 fun v49 h50 =>
 gopV (yV v33) true (fun k55 => popO (SemP PG (binOp BinOp.geq T_int v49 (Value.int IntKind.i64 4096))) fun v56 => k55 v56 h50) h50 fun v53 h54 =>
 popO (pickV v33 v53 (Value.bool false)) fun v57 =>
 condV v57
 (R (Value.int IntKind.i64 2) h54)
 (popO (SemP PG (nilS t0)) fun v58 =>
 popO (SemP PG (Instr.fieldAt T_store_Store v58 0)) fun v59 =>
 popO (SemE PG h54 (Instr.loadAt T_map_string_string v59)) fun v60 =>
 SemH PG (mapUpdS T_map_string_string v60 t1 t2) h54 fun v61 h62 =>
 R (Value.int IntKind.i64 0) h62))
def store_Store_Set.ann : Ann := { b := fun i => match i with  | _ => #[], ord := fun i => match i with  | _ => [], keep := fun i => match i with  | _ => [], n := 47 }
theorem store_Store_Set.eq (t0 : Value) (t1 : Value) (t2 : Value) (h0 : PH) (R : Value → PH → Prop) : codeF PG store_Store_Set.ann 200 (bodyOf Tryd.f17) (endH PG Tryd.f17 R) (fun t => (#[t0, t1, t2] : Array Value).getD t undef) h0 = store_Store_Set t0 t1 t2 h0 R := by kernel_rfl
theorem store_Store_Set.call {t0 : Value} {t1 : Value} {t2 : Value} {h0 : PH} {R : Value → PH → Prop} (H : store_Store_Set t0 t1 t2 h0 R) : CallsH PG id_store_Store_Set #[t0, t1, t2] h0 R :=
  callsF_by store_Store_Set.ann 200 mix Tryd.func17 (by kernel_rfl) (by kernel_rfl) (by kernel_rfl) (by kernel_rfl) (by simp [Tryd.ntmps17]) (store_Store_Set.eq t0 t1 t2 h0 R) H

def store_Store_Commit_b16 (R : Value → PH → Prop) (n15 : List Value → PH → Prop) (t0 : Value) (t4 : Value) (t24 : Value) (h0 : PH) : Prop :=
 SemH PG (Instr.next t24 false T_) h0 fun v17 h18 =>
 popO (SemP PG (Instr.extract v17 0)) fun v19 =>
 condV v19
 (SemH PG (Instr.entry t24) h18 fun v20 h21 =>
 popO (SemP PG (Instr.extract v20 0)) fun v22 =>
 popO (SemP PG (Instr.extract v20 1)) fun v23 =>
 popO (SemP PG (Instr.build T_api_Pair #[(0, v22), (1, v23)])) fun v24 =>
 popO (SemA PG (Instr.buildSlice T_sl_api_Pair 1 #[(0, v24)])) fun x26 => ∀ r25, h21 r25 = none → popO (SemP PG (x26.2 r25)) fun v27 => bindH (PH.set h21 r25 x26.1) fun h28 =>
 SemH PG (Builtin.append_ #[T_sl_api_Pair, T_sl_api_Pair] T_sl_api_Pair #[t4, v27]) h28 fun v29 h30 =>
 n15 [t0, v29, t24] h30)
 (CallsH PG id_slices_SortFunc_sl_api_Pair_api_Pair #[t4, (Value.func (Fn.func id_store_Store_Commit_1) #[] #[])] h18 fun v31 h32 =>
 popO (SemP PG (nilS t0)) fun v33 =>
 popO (SemP PG (Instr.fieldAt T_store_Store v33 1)) fun v34 =>
 popO (SemE PG h32 (Instr.loadAt T_sl_store_block v34)) fun v35 =>
 popO (SemP PG (Instr.build T_store_sorted #[(0, t4)])) fun v36 =>
 CallsH PG id_merkle_Root #[t4] h32 fun v37 h38 =>
 SemE PG h38 (Instr.loadAt T_sl_store_block v34) = some v35 ∧ (popO (SemP PG (Instr.build T_store_block #[(0, v36), (1, v37)])) fun v39 =>
 popO (SemA PG (Instr.buildSlice T_sl_store_block 1 #[(0, v39)])) fun x41 => ∀ r40, h38 r40 = none → popO (SemP PG (x41.2 r40)) fun v42 => bindH (PH.set h38 r40 x41.1) fun h43 =>
 SemH PG (Builtin.append_ #[T_sl_store_block, T_sl_store_block] T_sl_store_block #[v35, v42]) h43 fun v44 h45 =>
 (popO (SemP PG (nilS t0)) fun v46 =>
 popO (SemP PG (Instr.fieldAt T_store_Store v46 1)) fun v47 =>
 SemH PG (storeS T_sl_store_block v47 v44) h45 fun v48 h49 =>
 (popO (SemP PG (nilS t0)) fun v50 =>
 popO (SemP PG (Instr.fieldAt T_store_Store v50 2)) fun v51 =>
 popO (SemE PG h49 (Instr.loadAt T_uint64 v51)) fun v52 =>
 popO (SemP PG (binOp BinOp.add T_uint64 v52 (Value.int IntKind.u64 1))) fun v53 =>
 popO (SemP PG (nilS t0)) fun v54 =>
 popO (SemP PG (Instr.fieldAt T_store_Store v54 2)) fun v55 =>
 SemH PG (storeS T_uint64 v55 v53) h49 fun v56 h57 =>
 popO (SemP PG (nilS t0)) fun v58 =>
 popO (SemP PG (Instr.fieldAt T_store_Store v58 2)) fun v59 =>
 popO (SemE PG h57 (Instr.loadAt T_uint64 v59)) fun v60 =>
 R (Value.tuple #[v60, (Value.int IntKind.i64 0)]) h57))))
def store_Store_Commit (t0 : Value) (h0 : PH) (R : Value → PH → Prop) : Prop :=
 popO (SemP PG (nilS t0)) fun v1 =>
 popO (SemP PG (Instr.fieldAt T_store_Store v1 2)) fun v2 =>
 popO (SemE PG h0 (Instr.loadAt T_uint64 v2)) fun v3 =>
 popO (SemE PG h0 (binS BinOp.eql T_uint64 (.tmp 11) (.const (Value.int IntKind.u64 18446744073709551615)) v3 (Value.int IntKind.u64 18446744073709551615))) fun v4 =>
 condV v4
 (R (Value.tuple #[(Value.int IntKind.u64 0), (Value.int IntKind.i64 12)]) h0)
 (popO (SemP PG (nilS t0)) fun v5 =>
 popO (SemP PG (Instr.fieldAt T_store_Store v5 1)) fun v6 =>
 popO (SemE PG h0 (Instr.loadAt T_sl_store_block v6)) fun v7 =>
 popO (SemP PG (Builtin.len_ #[T_sl_store_block] T_int #[v7])) fun v8 =>
 popO (SemP PG (binOp BinOp.geq T_int v8 (Value.int IntKind.i64 4096))) fun v9 =>
 condV v9
 (R (Value.tuple #[(Value.int IntKind.u64 0), (Value.int IntKind.i64 2)]) h0)
 (popO (SemP PG (nilS t0)) fun v10 =>
 popO (SemP PG (Instr.fieldAt T_store_Store v10 0)) fun v11 =>
 popO (SemE PG h0 (Instr.loadAt T_map_string_string v11)) fun v12 =>
 SemH PG (Instr.range T_map_string_string v12) h0 fun v13 h14 =>
 LoopL [0, 4, 24] (fun n15 ρ h => store_Store_Commit_b16 R n15 (ρ 0) (ρ 4) (ρ 24) h) [t0, (Value.slice none 0 0), v13] h14))
def store_Store_Commit.ann : Ann := { b := fun i => match i with | 11 => #[0, 0, 2, 6, 14, 0, 32, 0, 128, 480, 992, 2046, 4095, 8191, 16383] | _ => #[], ord := fun i => match i with | 11 => [0, 1, 2, 3, 4, 5, 6, 7, 8, 9, 10, 11, 12, 13, 14] | _ => [], keep := fun i => match i with | 7 => [0, 4, 24] | _ => [], n := 63 }
theorem store_Store_Commit.eq (t0 : Value) (h0 : PH) (R : Value → PH → Prop) : codeF PG store_Store_Commit.ann 200 (bodyOf Tryd.f19) (endH PG Tryd.f19 R) (fun t => (#[t0] : Array Value).getD t undef) h0 = store_Store_Commit t0 h0 R := by kernel_rfl
theorem store_Store_Commit.call {t0 : Value} {h0 : PH} {R : Value → PH → Prop} (H : store_Store_Commit t0 h0 R) : CallsH PG id_store_Store_Commit #[t0] h0 R :=
  callsF_by store_Store_Commit.ann 200 mix Tryd.func19 (by kernel_rfl) (by kernel_rfl) (by kernel_rfl) (by kernel_rfl) (by simp [Tryd.ntmps19]) (store_Store_Commit.eq t0 h0 R) H

def store_Store_Commit_1 (t0 : Value) (t1 : Value) (h0 : PH) (R : Value → PH → Prop) : Prop :=
 ∀ r1, h0 r1 = none → bindH (PH.set h0 r1 (.cells (Value.cells t0) T_api_Pair)) fun h2 =>
 ∀ r3, h2 r3 = none → bindH (PH.set h2 r3 (.cells (Value.cells t1) T_api_Pair)) fun h4 =>
 popO (SemP PG (Instr.fieldAt T_api_Pair (Value.pointer (some ⟨r1, 0, none⟩)) 0)) fun v5 =>
 popO (SemE PG h4 (Instr.loadAt T_string v5)) fun v6 =>
 popO (SemP PG (Instr.fieldAt T_api_Pair (Value.pointer (some ⟨r3, 0, none⟩)) 0)) fun v7 =>
 popO (SemE PG h4 (Instr.loadAt T_string v7)) fun v8 =>
 CallsH PG id_cmp_Compare_string #[v6, v8] h4 fun v9 h10 =>
 R v9 h10
def store_Store_Commit_1.ann : Ann := { b := fun i => match i with  | _ => #[], ord := fun i => match i with  | _ => [], keep := fun i => match i with  | _ => [], n := 10 }
theorem store_Store_Commit_1.eq (t0 : Value) (t1 : Value) (h0 : PH) (R : Value → PH → Prop) : codeF PG store_Store_Commit_1.ann 200 (bodyOf Tryd.f30) (endH PG Tryd.f30 R) (fun t => (#[t0, t1] : Array Value).getD t undef) h0 = store_Store_Commit_1 t0 t1 h0 R := by kernel_rfl
theorem store_Store_Commit_1.call {t0 : Value} {t1 : Value} {h0 : PH} {R : Value → PH → Prop} (H : store_Store_Commit_1 t0 t1 h0 R) : CallsH PG id_store_Store_Commit_1 #[t0, t1] h0 R :=
  callsF_by store_Store_Commit_1.ann 200 mix Tryd.func30 (by kernel_rfl) (by kernel_rfl) (by kernel_rfl) (by kernel_rfl) (by simp [Tryd.ntmps30]) (store_Store_Commit_1.eq t0 t1 h0 R) H

def cmp_Compare_string (t0 : Value) (t1 : Value) (h0 : PH) (R : Value → PH → Prop) : Prop :=
 CallsH PG id_cmp_isNaN_string #[t0] h0 fun v1 h2 =>
 CallsH PG id_cmp_isNaN_string #[t1] h2 fun v3 h4 =>
 condV v1
 (condV v3
 (R (Value.int IntKind.i64 0) h4)
 (R (Value.int IntKind.i64 (-1)) h4))
 (condV v3
 (R (Value.int IntKind.i64 1) h4)
 (popO (SemP PG (binOp BinOp.lss T_string t0 t1)) fun v5 =>
 condV v5
 (R (Value.int IntKind.i64 (-1)) h4)
 (popO (SemP PG (binOp BinOp.gtr T_string t0 t1)) fun v6 =>
 condV v6
 (R (Value.int IntKind.i64 1) h4)
 (R (Value.int IntKind.i64 0) h4))))
def cmp_Compare_string.ann : Ann := { b := fun i => match i with  | _ => #[], ord := fun i => match i with  | _ => [], keep := fun i => match i with  | _ => [], n := 20 }
theorem cmp_Compare_string.eq (t0 : Value) (t1 : Value) (h0 : PH) (R : Value → PH → Prop) : codeF PG cmp_Compare_string.ann 200 (bodyOf Tryd.f31) (endH PG Tryd.f31 R) (fun t => (#[t0, t1] : Array Value).getD t undef) h0 = cmp_Compare_string t0 t1 h0 R := by kernel_rfl
theorem cmp_Compare_string.call {t0 : Value} {t1 : Value} {h0 : PH} {R : Value → PH → Prop} (H : cmp_Compare_string t0 t1 h0 R) : CallsH PG id_cmp_Compare_string #[t0, t1] h0 R :=
  callsF_by cmp_Compare_string.ann 200 mix Tryd.func31 (by kernel_rfl) (by kernel_rfl) (by kernel_rfl) (by kernel_rfl) (by simp [Tryd.ntmps31]) (cmp_Compare_string.eq t0 t1 h0 R) H

def cmp_isNaN_string (t0 : Value) (h0 : PH) (R : Value → PH → Prop) : Prop :=
 popO (SemE PG h0 (binS BinOp.neq T_string (.tmp 3) (.tmp 4) t0 t0)) fun v1 =>
 R v1 h0
def cmp_isNaN_string.ann : Ann := { b := fun i => match i with  | _ => #[], ord := fun i => match i with  | _ => [], keep := fun i => match i with  | _ => [], n := 6 }
theorem cmp_isNaN_string.eq (t0 : Value) (h0 : PH) (R : Value → PH → Prop) : codeF PG cmp_isNaN_string.ann 200 (bodyOf Tryd.f39) (endH PG Tryd.f39 R) (fun t => (#[t0] : Array Value).getD t undef) h0 = cmp_isNaN_string t0 h0 R := by kernel_rfl
theorem cmp_isNaN_string.call {t0 : Value} {h0 : PH} {R : Value → PH → Prop} (H : cmp_isNaN_string t0 h0 R) : CallsH PG id_cmp_isNaN_string #[t0] h0 R :=
  callsF_by cmp_isNaN_string.ann 200 mix Tryd.func39 (by kernel_rfl) (by kernel_rfl) (by kernel_rfl) (by kernel_rfl) (by simp [Tryd.ntmps39]) (cmp_isNaN_string.eq t0 h0 R) H

def carracklaw11_few_b4 (R : Value → PH → Prop) (n3 : List Value → PH → Prop) (t0 : Value) (t3 : Value) (h0 : PH) : Prop :=
 popO (SemP PG (Builtin.len_ #[T_sl_carrackref11_Act] T_int #[t0])) fun v5 =>
 popO (SemP PG (binOp BinOp.lss T_int t3 v5)) fun v6 =>
 condV v6
 (popO (SemP PG (Instr.indexAt T_sl_carrackref11_Act t0 t3)) fun v7 =>
 popO (SemP PG (Instr.fieldAt T_carrackref11_Act v7 1)) fun v8 =>
 popO (SemE PG h0 (Instr.loadAt T_string v8)) fun v9 =>
 popO (SemP PG (Builtin.len_ #[T_string] T_int #[v9])) fun v10 =>
 popO (SemP PG (binOp BinOp.gtr T_int v10 (Value.int IntKind.i64 300))) fun v11 =>
 gopV (yV v11) false (fun k14 => k14 t0 h0) h0 fun v12 h13 =>
 gopV (yV v11) false (fun k17 => k17 t3 h13) h13 fun v15 h16 =>
 gopV (yV v11) false (fun k20 => popO (SemP PG (Instr.indexAt T_sl_carrackref11_Act v12 v15)) fun v21 => k20 v21 h16) h16 fun v18 h19 =>
 gopV (yV v11) false (fun k24 => popO (SemP PG (Instr.fieldAt T_carrackref11_Act v18 2)) fun v25 => k24 v25 h19) h19 fun v22 h23 =>
 gopV (yV v11) false (fun k28 => popO (SemE PG h23 (Instr.loadAt T_string v22)) fun v29 => k28 v29 h23) h23 fun v26 h27 =>
 gopV (yV v11) false (fun k32 => popO (SemP PG (Builtin.len_ #[T_string] T_int #[v26])) fun v33 => k32 v33 h27) h27 fun v30 h31 =>
 gopV (yV v11) false (fun k36 => popO (SemP PG (binOp BinOp.gtr T_int v30 (Value.int IntKind.i64 300))) fun v37 => k36 v37 h31) h31 fun v34 h35 =>
 popO (pickV v11 (Value.bool true) v34) fun v38 =>
 condV v38
 (R (Value.bool false) h35)
 (popO (SemP PG (binOp BinOp.add T_int t3 (Value.int IntKind.i64 1))) fun v39 =>
 n3 [t0, v39] h35))
 (R (Value.bool true) h0)
def carracklaw11_few (t0 : Value) (h0 : PH) (R : Value → PH → Prop) : Prop :=
 popO (SemP PG (Builtin.len_ #[T_sl_carrackref11_Act] T_int #[t0])) fun v1 =>
 popO (SemP PG (binOp BinOp.gtr T_int v1 (Value.int IntKind.i64 60))) fun v2 =>
 condV v2
 (R (Value.bool false) h0)
 (LoopL [0, 3] (fun n3 ρ h => carracklaw11_few_b4 R n3 (ρ 0) (ρ 3) h) [t0, (Value.int IntKind.i64 0)] h0)
def carracklaw11_few.ann : Ann := { b := fun i => match i with  | _ => #[], ord := fun i => match i with  | _ => [], keep := fun i => match i with | 4 => [0, 3] | _ => [], n := 29 }
theorem carracklaw11_few.eq (t0 : Value) (h0 : PH) (R : Value → PH → Prop) : codeF PG carracklaw11_few.ann 200 (bodyOf Tryd.f8) (endH PG Tryd.f8 R) (fun t => (#[t0] : Array Value).getD t undef) h0 = carracklaw11_few t0 h0 R := by kernel_rfl
theorem carracklaw11_few.call {t0 : Value} {h0 : PH} {R : Value → PH → Prop} (H : carracklaw11_few t0 h0 R) : CallsH PG id_carracklaw11_few #[t0] h0 R :=
  callsF_by carracklaw11_few.ann 200 mix Tryd.func8 (by kernel_rfl) (by kernel_rfl) (by kernel_rfl) (by kernel_rfl) (by simp [Tryd.ntmps8]) (carracklaw11_few.eq t0 h0 R) H

def carrackref11_New (t0 : Value) (h0 : PH) (R : Value → PH → Prop) : Prop :=
 popO (SemA PG (Instr.buildSlice T_sl_sl_api_Pair 1 #[(0, (Value.slice none 0 0))])) fun x2 => ∀ r1, h0 r1 = none → popO (SemP PG (x2.2 r1)) fun v3 => bindH (PH.set h0 r1 x2.1) fun h4 =>
 popO (SemP PG (Instr.build T_carrackref11_Store #[(1, t0), (2, v3)])) fun v5 =>
 ∀ r6, h4 r6 = none → bindH (PH.set h4 r6 (.cells (Value.cells v5) T_carrackref11_Store)) fun h7 =>
 R (Value.pointer (some ⟨r6, 0, none⟩)) h7
def carrackref11_New.ann : Ann := { b := fun i => match i with  | _ => #[], ord := fun i => match i with  | _ => [], keep := fun i => match i with  | _ => [], n := 7 }
theorem carrackref11_New.eq (t0 : Value) (h0 : PH) (R : Value → PH → Prop) : codeF PG carrackref11_New.ann 200 (bodyOf Tryd.f10) (endH PG Tryd.f10 R) (fun t => (#[t0] : Array Value).getD t undef) h0 = carrackref11_New t0 h0 R := by kernel_rfl
theorem carrackref11_New.call {t0 : Value} {h0 : PH} {R : Value → PH → Prop} (H : carrackref11_New t0 h0 R) : CallsH PG id_carrackref11_New #[t0] h0 R :=
  callsF_by carrackref11_New.ann 200 mix Tryd.func10 (by kernel_rfl) (by kernel_rfl) (by kernel_rfl) (by kernel_rfl) (by simp [Tryd.ntmps10]) (carrackref11_New.eq t0 h0 R) H

def store_Store_Height (t0 : Value) (h0 : PH) (R : Value → PH → Prop) : Prop :=
 popO (SemP PG (nilS t0)) fun v1 =>
 popO (SemP PG (Instr.fieldAt T_store_Store v1 2)) fun v2 =>
 popO (SemE PG h0 (Instr.loadAt T_uint64 v2)) fun v3 =>
 R v3 h0
def store_Store_Height.ann : Ann := { b := fun i => match i with  | _ => #[], ord := fun i => match i with  | _ => [], keep := fun i => match i with  | _ => [], n := 7 }
theorem store_Store_Height.eq (t0 : Value) (h0 : PH) (R : Value → PH → Prop) : codeF PG store_Store_Height.ann 200 (bodyOf Tryd.f11) (endH PG Tryd.f11 R) (fun t => (#[t0] : Array Value).getD t undef) h0 = store_Store_Height t0 h0 R := by kernel_rfl
theorem store_Store_Height.call {t0 : Value} {h0 : PH} {R : Value → PH → Prop} (H : store_Store_Height t0 h0 R) : CallsH PG id_store_Store_Height #[t0] h0 R :=
  callsF_by store_Store_Height.ann 200 mix Tryd.func11 (by kernel_rfl) (by kernel_rfl) (by kernel_rfl) (by kernel_rfl) (by simp [Tryd.ntmps11]) (store_Store_Height.eq t0 h0 R) H

def carracklaw11_do (t0 : Value) (t1 : Value) (t2 : Value) (h0 : PH) (R : Value → PH → Prop) : Prop :=
 ∀ r1, h0 r1 = none → bindH (PH.set h0 r1 (.cells (Value.cells t2) T_carrackref11_Act)) fun h2 =>
 popO (SemP PG (Instr.fieldAt T_carrackref11_Act (Value.pointer (some ⟨r1, 0, none⟩)) 0)) fun v3 =>
 popO (SemE PG h2 (Instr.loadAt T_int v3)) fun v4 =>
 popO (SemE PG h2 (binS BinOp.eql T_int (.tmp 12) (.const (Value.int IntKind.i64 0)) v4 (Value.int IntKind.i64 0))) fun v5 =>
 condV v5
 (popO (SemP PG (Instr.fieldAt T_carrackref11_Act (Value.pointer (some ⟨r1, 0, none⟩)) 1)) fun v6 =>
 popO (SemE PG h2 (Instr.loadAt T_string v6)) fun v7 =>
 popO (SemP PG (Instr.fieldAt T_carrackref11_Act (Value.pointer (some ⟨r1, 0, none⟩)) 2)) fun v8 =>
 popO (SemE PG h2 (Instr.loadAt T_string v8)) fun v9 =>
 popO (SemP PG (Instr.fieldAt T_carrackref11_Act (Value.pointer (some ⟨r1, 0, none⟩)) 1)) fun v10 =>
 popO (SemE PG h2 (Instr.loadAt T_string v10)) fun v11 =>
 popO (SemP PG (Instr.fieldAt T_carrackref11_Act (Value.pointer (some ⟨r1, 0, none⟩)) 2)) fun v12 =>
 popO (SemE PG h2 (Instr.loadAt T_string v12)) fun v13 =>
 CallsH PG id_store_Store_Set #[t0, v7, v9] h2 fun v14 h15 =>
 SemE PG h15 (Instr.loadAt T_string v12) = some v13 ∧ SemE PG h15 (Instr.loadAt T_string v10) = some v11 ∧ (CallsH PG id_carrackref11_Store_Set #[t1, v11, v13] h15 fun v16 h17 =>
 (popO (SemE PG h17 (binS BinOp.eql T_int (.tmp 20) (.tmp 26) v14 v16)) fun v18 =>
 R v18 h17)))
 (popO (SemE PG h2 (binS BinOp.eql T_int (.tmp 12) (.const (Value.int IntKind.i64 1)) v4 (Value.int IntKind.i64 1))) fun v19 =>
 condV v19
 (popO (SemP PG (Instr.fieldAt T_carrackref11_Act (Value.pointer (some ⟨r1, 0, none⟩)) 1)) fun v20 =>
 popO (SemE PG h2 (Instr.loadAt T_string v20)) fun v21 =>
 popO (SemP PG (Instr.fieldAt T_carrackref11_Act (Value.pointer (some ⟨r1, 0, none⟩)) 1)) fun v22 =>
 popO (SemE PG h2 (Instr.loadAt T_string v22)) fun v23 =>
 CallsH PG id_store_Store_Delete #[t0, v21] h2 fun v24 h25 =>
 SemE PG h25 (Instr.loadAt T_string v22) = some v23 ∧ (CallsH PG id_carrackref11_Store_Delete #[t1, v23] h25 fun v26 h27 =>
 (popO (SemE PG h27 (binS BinOp.eql T_int (.tmp 33) (.tmp 37) v24 v26)) fun v28 =>
 R v28 h27)))
 (popO (SemE PG h2 (binS BinOp.eql T_int (.tmp 12) (.const (Value.int IntKind.i64 2)) v4 (Value.int IntKind.i64 2))) fun v29 =>
 condV v29
 (CallsH PG id_store_Store_Commit #[t0] h2 fun v30 h31 =>
 popO (SemP PG (Instr.extract v30 0)) fun v32 =>
 popO (SemP PG (Instr.extract v30 1)) fun v33 =>
 CallsH PG id_carrackref11_Store_Commit #[t1] h31 fun v34 h35 =>
 popO (SemP PG (Instr.extract v34 0)) fun v36 =>
 popO (SemP PG (Instr.extract v34 1)) fun v37 =>
 popO (SemE PG h35 (binS BinOp.eql T_uint64 (.tmp 51) (.tmp 52) v32 v36)) fun v38 =>
 gopV (yV v38) true (fun k41 => k41 v33 h35) h35 fun v39 h40 =>
 gopV (yV v38) true (fun k44 => k44 v37 h40) h40 fun v42 h43 =>
 gopV (yV v38) true (fun k47 => popO (SemE PG h43 (binS BinOp.eql T_int (.tmp 55) (.tmp 56) v39 v42)) fun v48 => k47 v48 h43) h43 fun v45 h46 =>
 popO (pickV v38 v45 (Value.bool false)) fun v49 =>
 R v49 h46)
 (R (Value.bool true) h2)))
def carracklaw11_do.ann : Ann := { b := fun i => match i with | 3 => #[0, 0, 2, 0, 8, 31, 0, 0, 128, 0, 512, 2047, 4095, 8191] | 5 => #[0, 0, 2, 7, 0, 0, 32, 127, 255, 511] | _ => #[], ord := fun i => match i with | 3 => [0, 1, 2, 3, 4, 6, 7, 8, 9, 10, 5, 11, 12, 13] | 5 => [0, 1, 2, 4, 5, 6, 3, 7, 8, 9] | _ => [], keep := fun i => match i with  | _ => [], n := 59 }
theorem carracklaw11_do.eq (t0 : Value) (t1 : Value) (t2 : Value) (h0 : PH) (R : Value → PH → Prop) : codeF PG carracklaw11_do.ann 200 (bodyOf Tryd.f12) (endH PG Tryd.f12 R) (fun t => (#[t0, t1, t2] : Array Value).getD t undef) h0 = carracklaw11_do t0 t1 t2 h0 R := by kernel_rfl
theorem carracklaw11_do.call {t0 : Value} {t1 : Value} {t2 : Value} {h0 : PH} {R : Value → PH → Prop} (H : carracklaw11_do t0 t1 t2 h0 R) : CallsH PG id_carracklaw11_do #[t0, t1, t2] h0 R :=
  callsF_by carracklaw11_do.ann 200 mix Tryd.func12 (by kernel_rfl) (by kernel_rfl) (by kernel_rfl) (by kernel_rfl) (by simp [Tryd.ntmps12]) (carracklaw11_do.eq t0 t1 t2 h0 R) H

def store_Store_Delete (t0 : Value) (t1 : Value) (h0 : PH) (R : Value → PH → Prop) : Prop :=
 popO (SemP PG (nilS t0)) fun v1 =>
 popO (SemP PG (Instr.fieldAt T_store_Store v1 0)) fun v2 =>
 popO (SemE PG h0 (Instr.loadAt T_map_string_string v2)) fun v3 =>
 popO (SemE PG h0 (Instr.lookup T_map_string_string v3 t1 true)) fun v4 =>
 popO (SemP PG (Instr.extract v4 0)) fun v5 =>
 popO (SemP PG (Instr.extract v4 1)) fun v6 =>
 popO (SemP PG (Op.unary UnOp.not v6)) fun v7 =>
 condV v7
 (R (Value.int IntKind.i64 3) h0)
 (popO (SemP PG (nilS t0)) fun v8 =>
 popO (SemP PG (Instr.fieldAt T_store_Store v8 0)) fun v9 =>
 popO (SemE PG h0 (Instr.loadAt T_map_string_string v9)) fun v10 =>
 SemH PG (Builtin.delete_ #[T_map_string_string, T_string] T_ #[v10, t1]) h0 fun v11 h12 =>
 R (Value.int IntKind.i64 0) h12)
def store_Store_Delete.ann : Ann := { b := fun i => match i with  | _ => #[], ord := fun i => match i with  | _ => [], keep := fun i => match i with  | _ => [], n := 23 }
theorem store_Store_Delete.eq (t0 : Value) (t1 : Value) (h0 : PH) (R : Value → PH → Prop) : codeF PG store_Store_Delete.ann 200 (bodyOf Tryd.f18) (endH PG Tryd.f18 R) (fun t => (#[t0, t1] : Array Value).getD t undef) h0 = store_Store_Delete t0 t1 h0 R := by kernel_rfl
theorem store_Store_Delete.call {t0 : Value} {t1 : Value} {h0 : PH} {R : Value → PH → Prop} (H : store_Store_Delete t0 t1 h0 R) : CallsH PG id_store_Store_Delete #[t0, t1] h0 R :=
  callsF_by store_Store_Delete.ann 200 mix Tryd.func18 (by kernel_rfl) (by kernel_rfl) (by kernel_rfl) (by kernel_rfl) (by simp [Tryd.ntmps18]) (store_Store_Delete.eq t0 t1 h0 R) H

def carrackref11_Store_Set_k40 (R : Value → PH → Prop) (t0 : Value) (t1 : Value) (t2 : Value) (t7 : Value) (t9 : Value) (h0 : PH) : Prop :=
 popO (SemA PG (Instr.buildSlice T_sl_api_Pair 0 #[])) fun x42 => ∀ r41, h0 r41 = none → popO (SemP PG (x42.2 r41)) fun v43 => bindH (PH.set h0 r41 x42.1) fun h44 =>
 popO (SemP PG (nilS t0)) fun v45 =>
 popO (SemP PG (Instr.fieldAt T_carrackref11_Store v45 0)) fun v46 =>
 popO (SemE PG h44 (Instr.loadAt T_sl_api_Pair v46)) fun v47 =>
 popO (SemP PG (Instr.sliceAt T_sl_api_Pair v47 none (some t7) none)) fun v48 =>
 SemH PG (Builtin.append_ #[T_sl_api_Pair, T_sl_api_Pair] T_sl_api_Pair #[v43, v48]) h44 fun v49 h50 =>
 popO (SemP PG (Instr.build T_api_Pair #[(0, t1), (1, t2)])) fun v51 =>
 popO (SemA PG (Instr.buildSlice T_sl_api_Pair 1 #[(0, v51)])) fun x53 => ∀ r52, h50 r52 = none → popO (SemP PG (x53.2 r52)) fun v54 => bindH (PH.set h50 r52 x53.1) fun h55 =>
 SemH PG (Builtin.append_ #[T_sl_api_Pair, T_sl_api_Pair] T_sl_api_Pair #[v49, v54]) h55 fun v56 h57 =>
 SemH PG (Builtin.append_ #[T_sl_api_Pair, T_sl_api_Pair] T_sl_api_Pair #[v56, t9]) h57 fun v58 h59 =>
 popO (SemP PG (nilS t0)) fun v60 =>
 popO (SemP PG (Instr.fieldAt T_carrackref11_Store v60 0)) fun v61 =>
 SemH PG (storeS T_sl_api_Pair v61 v58) h59 fun v62 h63 =>
 R (Value.int IntKind.i64 0) h63
def carrackref11_Store_Set (t0 : Value) (t1 : Value) (t2 : Value) (h0 : PH) (R : Value → PH → Prop) : Prop :=
 popO (SemP PG (Builtin.len_ #[T_string] T_int #[t1])) fun v1 =>
 popO (SemE PG h0 (binS BinOp.eql T_int (.tmp 11) (.const (Value.int IntKind.i64 0)) v1 (Value.int IntKind.i64 0))) fun v2 =>
 gopV (yV v2) false (fun k5 => k5 t1 h0) h0 fun v3 h4 =>
 gopV (yV v2) false (fun k8 => popO (SemP PG (Builtin.len_ #[T_string] T_int #[v3])) fun v9 => k8 v9 h4) h4 fun v6 h7 =>
 gopV (yV v2) false (fun k12 => popO (SemP PG (binOp BinOp.gtr T_int v6 (Value.int IntKind.i64 16))) fun v13 => k12 v13 h7) h7 fun v10 h11 =>
 popO (pickV v2 (Value.bool true) v10) fun v14 =>
 gopV (yV v14) false (fun k17 => k17 t2 h11) h11 fun v15 h16 =>
 gopV (yV v14) false (fun k20 => popO (SemP PG (Builtin.len_ #[T_string] T_int #[v15])) fun v21 => k20 v21 h16) h16 fun v18 h19 =>
 gopV (yV v14) false (fun k24 => popO (SemP PG (binOp BinOp.gtr T_int v18 (Value.int IntKind.i64 64))) fun v25 => k24 v25 h19) h19 fun v22 h23 =>
 popO (pickV v14 (Value.bool true) v22) fun v26 =>
 condV v26
 (R (Value.int IntKind.i64 1) h23)
 (CallsH PG id_carrackref11_Store_find #[t0, t1] h23 fun v27 h28 =>
 popO (SemP PG (Instr.extract v27 0)) fun v29 =>
 popO (SemP PG (Instr.extract v27 1)) fun v30 =>
 popO (SemP PG (nilS t0)) fun v31 =>
 popO (SemP PG (Instr.fieldAt T_carrackref11_Store v31 0)) fun v32 =>
 popO (SemE PG h28 (Instr.loadAt T_sl_api_Pair v32)) fun v33 =>
 popO (SemP PG (Instr.sliceAt T_sl_api_Pair v33 (some v29) none none)) fun v34 =>
 condV v30
 (popO (SemP PG (nilS t0)) fun v35 =>
 popO (SemP PG (Instr.fieldAt T_carrackref11_Store v35 0)) fun v36 =>
 popO (SemE PG h28 (Instr.loadAt T_sl_api_Pair v36)) fun v37 =>
 popO (SemP PG (binOp BinOp.add T_int v29 (Value.int IntKind.i64 1))) fun v38 =>
 popO (SemP PG (Instr.sliceAt T_sl_api_Pair v37 (some v38) none none)) fun v39 =>
 carrackref11_Store_Set_k40 R t0 t1 t2 v29 v39 h28)
 (popO (SemP PG (nilS t0)) fun v64 =>
 popO (SemP PG (Instr.fieldAt T_carrackref11_Store v64 0)) fun v65 =>
 popO (SemE PG h28 (Instr.loadAt T_sl_api_Pair v65)) fun v66 =>
 popO (SemP PG (Builtin.len_ #[T_sl_api_Pair] T_int #[v66])) fun v67 =>
 popO (SemP PG (binOp BinOp.geq T_int v67 (Value.int IntKind.i64 4096))) fun v68 =>
 condV v68
 (R (Value.int IntKind.i64 2) h28)
 (carrackref11_Store_Set_k40 R t0 t1 t2 v29 v34 h28)))
def carrackref11_Store_Set.ann : Ann := { b := fun i => match i with  | _ => #[], ord := fun i => match i with  | _ => [], keep := fun i => match i with  | _ => [], n := 67 }
theorem carrackref11_Store_Set.eq (t0 : Value) (t1 : Value) (t2 : Value) (h0 : PH) (R : Value → PH → Prop) : codeF PG carrackref11_Store_Set.ann 200 (bodyOf Tryd.f24) (endH PG Tryd.f24 R) (fun t => (#[t0, t1, t2] : Array Value).getD t undef) h0 = carrackref11_Store_Set t0 t1 t2 h0 R := by kernel_rfl
theorem carrackref11_Store_Set.call {t0 : Value} {t1 : Value} {t2 : Value} {h0 : PH} {R : Value → PH → Prop} (H : carrackref11_Store_Set t0 t1 t2 h0 R) : CallsH PG id_carrackref11_Store_Set #[t0, t1, t2] h0 R :=
  callsF_by carrackref11_Store_Set.ann 200 mix Tryd.func24 (by kernel_rfl) (by kernel_rfl) (by kernel_rfl) (by kernel_rfl) (by simp [Tryd.ntmps24]) (carrackref11_Store_Set.eq t0 t1 t2 h0 R) H

def carrackref11_Store_find_b2 (R : Value → PH → Prop) (n1 : List Value → PH → Prop) (t0 : Value) (t1 : Value) (t6 : Value) (h0 : PH) : Prop :=
 popO (SemP PG (nilS t0)) fun v3 =>
 popO (SemP PG (Instr.fieldAt T_carrackref11_Store v3 0)) fun v4 =>
 popO (SemE PG h0 (Instr.loadAt T_sl_api_Pair v4)) fun v5 =>
 popO (SemP PG (Builtin.len_ #[T_sl_api_Pair] T_int #[v5])) fun v6 =>
 popO (SemP PG (binOp BinOp.lss T_int t6 v6)) fun v7 =>
 gopV (yV v7) true (fun k10 => k10 t0 h0) h0 fun v8 h9 =>
 gopV (yV v7) true (fun k13 => popO (SemP PG (nilS v8)) fun v14 => k13 v14 h9) h9 fun v11 h12 =>
 gopV (yV v7) true (fun k17 => popO (SemP PG (Instr.fieldAt T_carrackref11_Store v11 0)) fun v18 => k17 v18 h12) h12 fun v15 h16 =>
 gopV (yV v7) true (fun k21 => popO (SemE PG h16 (Instr.loadAt T_sl_api_Pair v15)) fun v22 => k21 v22 h16) h16 fun v19 h20 =>
 gopV (yV v7) true (fun k25 => k25 t6 h20) h20 fun v23 h24 =>
 gopV (yV v7) true (fun k28 => popO (SemP PG (Instr.indexAt T_sl_api_Pair v19 v23)) fun v29 => k28 v29 h24) h24 fun v26 h27 =>
 gopV (yV v7) true (fun k32 => popO (SemP PG (Instr.fieldAt T_api_Pair v26 0)) fun v33 => k32 v33 h27) h27 fun v30 h31 =>
 gopV (yV v7) true (fun k36 => popO (SemE PG h31 (Instr.loadAt T_string v30)) fun v37 => k36 v37 h31) h31 fun v34 h35 =>
 gopV (yV v7) true (fun k40 => k40 t1 h35) h35 fun v38 h39 =>
 gopV (yV v7) true (fun k43 => popO (SemP PG (binOp BinOp.lss T_string v34 v38)) fun v44 => k43 v44 h39) h39 fun v41 h42 =>
 popO (pickV v7 v41 (Value.bool false)) fun v45 =>
 condV v45
 (popO (SemP PG (binOp BinOp.add T_int t6 (Value.int IntKind.i64 1))) fun v46 =>
 n1 [t0, t1, v46] h42)
 (popO (SemP PG (nilS t0)) fun v47 =>
 popO (SemP PG (Instr.fieldAt T_carrackref11_Store v47 0)) fun v48 =>
 popO (SemE PG h42 (Instr.loadAt T_sl_api_Pair v48)) fun v49 =>
 popO (SemP PG (Builtin.len_ #[T_sl_api_Pair] T_int #[v49])) fun v50 =>
 popO (SemP PG (binOp BinOp.lss T_int t6 v50)) fun v51 =>
 gopV (yV v51) true (fun k54 => k54 t0 h42) h42 fun v52 h53 =>
 gopV (yV v51) true (fun k57 => popO (SemP PG (nilS v52)) fun v58 => k57 v58 h53) h53 fun v55 h56 =>
 gopV (yV v51) true (fun k61 => popO (SemP PG (Instr.fieldAt T_carrackref11_Store v55 0)) fun v62 => k61 v62 h56) h56 fun v59 h60 =>
 gopV (yV v51) true (fun k65 => popO (SemE PG h60 (Instr.loadAt T_sl_api_Pair v59)) fun v66 => k65 v66 h60) h60 fun v63 h64 =>
 gopV (yV v51) true (fun k69 => k69 t6 h64) h64 fun v67 h68 =>
 gopV (yV v51) true (fun k72 => popO (SemP PG (Instr.indexAt T_sl_api_Pair v63 v67)) fun v73 => k72 v73 h68) h68 fun v70 h71 =>
 gopV (yV v51) true (fun k76 => popO (SemP PG (Instr.fieldAt T_api_Pair v70 0)) fun v77 => k76 v77 h71) h71 fun v74 h75 =>
 gopV (yV v51) true (fun k80 => popO (SemE PG h75 (Instr.loadAt T_string v74)) fun v81 => k80 v81 h75) h75 fun v78 h79 =>
 gopV (yV v51) true (fun k84 => k84 t1 h79) h79 fun v82 h83 =>
 gopV (yV v51) true (fun k87 => popO (SemE PG h83 (binS BinOp.eql T_string (.tmp 44) (.tmp 45) v78 v82)) fun v88 => k87 v88 h83) h83 fun v85 h86 =>
 popO (pickV v51 v85 (Value.bool false)) fun v89 =>
 R (Value.tuple #[t6, v89]) h86)
def carrackref11_Store_find (t0 : Value) (t1 : Value) (h0 : PH) (R : Value → PH → Prop) : Prop :=
 LoopL [0, 1, 6] (fun n1 ρ h => carrackref11_Store_find_b2 R n1 (ρ 0) (ρ 1) (ρ 6) h) [t0, t1, (Value.int IntKind.i64 0)] h0
def carrackref11_Store_find.ann : Ann := { b := fun i => match i with | 4 => #[0, 0, 0, 4, 12, 28, 60, 126, 254, 510, 1022, 2046, 4094, 510, 16382, 32766, 65534, 510, 262142, 524286, 511, 2097151] | _ => #[], ord := fun i => match i with | 4 => [0, 1, 2, 3, 4, 5, 6, 7, 8, 9, 10, 11, 12, 13, 14, 15, 16, 17, 18, 19, 20, 21] | _ => [], keep := fun i => match i with | 2 => [0, 1, 6] | _ => [], n := 48 }
theorem carrackref11_Store_find.eq (t0 : Value) (t1 : Value) (h0 : PH) (R : Value → PH → Prop) : codeF PG carrackref11_Store_find.ann 200 (bodyOf Tryd.f34) (endH PG Tryd.f34 R) (fun t => (#[t0, t1] : Array Value).getD t undef) h0 = carrackref11_Store_find t0 t1 h0 R := by kernel_rfl
theorem carrackref11_Store_find.call {t0 : Value} {t1 : Value} {h0 : PH} {R : Value → PH → Prop} (H : carrackref11_Store_find t0 t1 h0 R) : CallsH PG id_carrackref11_Store_find #[t0, t1] h0 R :=
  callsF_by carrackref11_Store_find.ann 200 mix Tryd.func34 (by kernel_rfl) (by kernel_rfl) (by kernel_rfl) (by kernel_rfl) (by simp [Tryd.ntmps34]) (carrackref11_Store_find.eq t0 t1 h0 R) H

def carrackref11_Store_Delete (t0 : Value) (t1 : Value) (h0 : PH) (R : Value → PH → Prop) : Prop :=
 CallsH PG id_carrackref11_Store_find #[t0, t1] h0 fun v1 h2 =>
 popO (SemP PG (Instr.extract v1 0)) fun v3 =>
 popO (SemP PG (Instr.extract v1 1)) fun v4 =>
 popO (SemP PG (Op.unary UnOp.not v4)) fun v5 =>
 condV v5
 (R (Value.int IntKind.i64 3) h2)
 (popO (SemP PG (nilS t0)) fun v6 =>
 popO (SemP PG (Instr.fieldAt T_carrackref11_Store v6 0)) fun v7 =>
 popO (SemE PG h2 (Instr.loadAt T_sl_api_Pair v7)) fun v8 =>
 popO (SemP PG (Instr.sliceAt T_sl_api_Pair v8 none (some v3) none)) fun v9 =>
 popO (SemP PG (nilS t0)) fun v10 =>
 popO (SemP PG (Instr.fieldAt T_carrackref11_Store v10 0)) fun v11 =>
 popO (SemE PG h2 (Instr.loadAt T_sl_api_Pair v11)) fun v12 =>
 popO (SemP PG (binOp BinOp.add T_int v3 (Value.int IntKind.i64 1))) fun v13 =>
 popO (SemP PG (Instr.sliceAt T_sl_api_Pair v12 (some v13) none none)) fun v14 =>
 popO (SemA PG (Instr.buildSlice T_sl_api_Pair 0 #[])) fun x16 => ∀ r15, h2 r15 = none → popO (SemP PG (x16.2 r15)) fun v17 => bindH (PH.set h2 r15 x16.1) fun h18 =>
 SemH PG (Builtin.append_ #[T_sl_api_Pair, T_sl_api_Pair] T_sl_api_Pair #[v17, v9]) h18 fun v19 h20 =>
 SemE PG h20 (Instr.loadAt T_sl_api_Pair v11) = some v12 ∧ (SemH PG (Builtin.append_ #[T_sl_api_Pair, T_sl_api_Pair] T_sl_api_Pair #[v19, v14]) h20 fun v21 h22 =>
 (popO (SemP PG (nilS t0)) fun v23 =>
 popO (SemP PG (Instr.fieldAt T_carrackref11_Store v23 0)) fun v24 =>
 SemH PG (storeS T_sl_api_Pair v24 v21) h22 fun v25 h26 =>
 (R (Value.int IntKind.i64 0) h26))))
def carrackref11_Store_Delete.ann : Ann := { b := fun i => match i with | 4 => #[0, 0, 0, 4, 12, 28, 0, 124, 254, 0, 512, 1536, 3584, 0, 8192, 32256, 65534, 131071, 262143, 524287] | _ => #[], ord := fun i => match i with | 4 => [0, 2, 3, 4, 5, 6, 7, 9, 10, 11, 12, 13, 14, 15, 1, 8, 16, 17, 18, 19] | _ => [], keep := fun i => match i with  | _ => [], n := 34 }
theorem carrackref11_Store_Delete.eq (t0 : Value) (t1 : Value) (h0 : PH) (R : Value → PH → Prop) : codeF PG carrackref11_Store_Delete.ann 200 (bodyOf Tryd.f25) (endH PG Tryd.f25 R) (fun t => (#[t0, t1] : Array Value).getD t undef) h0 = carrackref11_Store_Delete t0 t1 h0 R := by kernel_rfl
theorem carrackref11_Store_Delete.call {t0 : Value} {t1 : Value} {h0 : PH} {R : Value → PH → Prop} (H : carrackref11_Store_Delete t0 t1 h0 R) : CallsH PG id_carrackref11_Store_Delete #[t0, t1] h0 R :=
  callsF_by carrackref11_Store_Delete.ann 200 mix Tryd.func25 (by kernel_rfl) (by kernel_rfl) (by kernel_rfl) (by kernel_rfl) (by simp [Tryd.ntmps25]) (carrackref11_Store_Delete.eq t0 t1 h0 R) H

def carrackref11_Store_Commit (t0 : Value) (h0 : PH) (R : Value → PH → Prop) : Prop :=
 CallsH PG id_carrackref11_Store_Height #[t0] h0 fun v1 h2 =>
 popO (SemP PG (binOp BinOp.add T_uint64 v1 (Value.int IntKind.u64 1))) fun v3 =>
 popO (SemE PG h2 (binS BinOp.eql T_uint64 (.tmp 6) (.const (Value.int IntKind.u64 0)) v3 (Value.int IntKind.u64 0))) fun v4 =>
 condV v4
 (R (Value.tuple #[(Value.int IntKind.u64 0), (Value.int IntKind.i64 12)]) h2)
 (popO (SemP PG (nilS t0)) fun v5 =>
 popO (SemP PG (Instr.fieldAt T_carrackref11_Store v5 2)) fun v6 =>
 popO (SemE PG h2 (Instr.loadAt T_sl_sl_api_Pair v6)) fun v7 =>
 popO (SemP PG (Builtin.len_ #[T_sl_sl_api_Pair] T_int #[v7])) fun v8 =>
 popO (SemP PG (binOp BinOp.geq T_int v8 (Value.int IntKind.i64 4096))) fun v9 =>
 condV v9
 (R (Value.tuple #[(Value.int IntKind.u64 0), (Value.int IntKind.i64 2)]) h2)
 (popO (SemP PG (nilS t0)) fun v10 =>
 popO (SemP PG (Instr.fieldAt T_carrackref11_Store v10 2)) fun v11 =>
 popO (SemE PG h2 (Instr.loadAt T_sl_sl_api_Pair v11)) fun v12 =>
 popO (SemP PG (nilS t0)) fun v13 =>
 popO (SemP PG (Instr.fieldAt T_carrackref11_Store v13 0)) fun v14 =>
 popO (SemE PG h2 (Instr.loadAt T_sl_api_Pair v14)) fun v15 =>
 popO (SemA PG (Instr.buildSlice T_sl_sl_api_Pair 0 #[])) fun x17 => ∀ r16, h2 r16 = none → popO (SemP PG (x17.2 r16)) fun v18 => bindH (PH.set h2 r16 x17.1) fun h19 =>
 SemH PG (Builtin.append_ #[T_sl_sl_api_Pair, T_sl_sl_api_Pair] T_sl_sl_api_Pair #[v18, v12]) h19 fun v20 h21 =>
 SemE PG h21 (Instr.loadAt T_sl_api_Pair v14) = some v15 ∧ (popO (SemA PG (Instr.buildSlice T_sl_sl_api_Pair 1 #[(0, v15)])) fun x23 => ∀ r22, h21 r22 = none → popO (SemP PG (x23.2 r22)) fun v24 => bindH (PH.set h21 r22 x23.1) fun h25 =>
 SemH PG (Builtin.append_ #[T_sl_sl_api_Pair, T_sl_sl_api_Pair] T_sl_sl_api_Pair #[v20, v24]) h25 fun v26 h27 =>
 (popO (SemP PG (nilS t0)) fun v28 =>
 popO (SemP PG (Instr.fieldAt T_carrackref11_Store v28 2)) fun v29 =>
 SemH PG (storeS T_sl_sl_api_Pair v29 v26) h27 fun v30 h31 =>
 (CallsH PG id_carrackref11_Store_Height #[t0] h31 fun v32 h33 =>
 R (Value.tuple #[v32, (Value.int IntKind.i64 0)]) h33)))))
def carrackref11_Store_Commit.ann : Ann := { b := fun i => match i with | 5 => #[0, 0, 0, 4, 12, 28, 62, 0, 128, 384, 896, 1920, 4094, 8191, 16383, 32767] | _ => #[], ord := fun i => match i with | 5 => [0, 2, 3, 4, 5, 7, 8, 9, 10, 1, 6, 11, 12, 13, 14, 15] | _ => [], keep := fun i => match i with  | _ => [], n := 31 }
theorem carrackref11_Store_Commit.eq (t0 : Value) (h0 : PH) (R : Value → PH → Prop) : codeF PG carrackref11_Store_Commit.ann 200 (bodyOf Tryd.f26) (endH PG Tryd.f26 R) (fun t => (#[t0] : Array Value).getD t undef) h0 = carrackref11_Store_Commit t0 h0 R := by kernel_rfl
theorem carrackref11_Store_Commit.call {t0 : Value} {h0 : PH} {R : Value → PH → Prop} (H : carrackref11_Store_Commit t0 h0 R) : CallsH PG id_carrackref11_Store_Commit #[t0] h0 R :=
  callsF_by carrackref11_Store_Commit.ann 200 mix Tryd.func26 (by kernel_rfl) (by kernel_rfl) (by kernel_rfl) (by kernel_rfl) (by simp [Tryd.ntmps26]) (carrackref11_Store_Commit.eq t0 h0 R) H

def carrackref11_Store_Height (t0 : Value) (h0 : PH) (R : Value → PH → Prop) : Prop :=
 popO (SemP PG (nilS t0)) fun v1 =>
 popO (SemP PG (Instr.fieldAt T_carrackref11_Store v1 1)) fun v2 =>
 popO (SemE PG h0 (Instr.loadAt T_uint64 v2)) fun v3 =>
 popO (SemP PG (nilS t0)) fun v4 =>
 popO (SemP PG (Instr.fieldAt T_carrackref11_Store v4 2)) fun v5 =>
 popO (SemE PG h0 (Instr.loadAt T_sl_sl_api_Pair v5)) fun v6 =>
 popO (SemP PG (Builtin.len_ #[T_sl_sl_api_Pair] T_int #[v6])) fun v7 =>
 popO (SemP PG (binOp BinOp.sub T_int v7 (Value.int IntKind.i64 1))) fun v8 =>
 popO (SemP PG (convert T_int T_uint64 v8)) fun v9 =>
 popO (SemP PG (binOp BinOp.add T_uint64 v3 v9)) fun v10 =>
 R v10 h0
def carrackref11_Store_Height.ann : Ann := { b := fun i => match i with | 1 => #[0, 1, 3, 7, 0, 16, 48, 112, 240, 496, 1008, 2047, 4095] | _ => #[], ord := fun i => match i with | 1 => [0, 1, 2, 3, 4, 5, 6, 7, 8, 9, 10, 11, 12] | _ => [], keep := fun i => match i with  | _ => [], n := 15 }
theorem carrackref11_Store_Height.eq (t0 : Value) (h0 : PH) (R : Value → PH → Prop) : codeF PG carrackref11_Store_Height.ann 200 (bodyOf Tryd.f35) (endH PG Tryd.f35 R) (fun t => (#[t0] : Array Value).getD t undef) h0 = carrackref11_Store_Height t0 h0 R := by kernel_rfl
theorem carrackref11_Store_Height.call {t0 : Value} {h0 : PH} {R : Value → PH → Prop} (H : carrackref11_Store_Height t0 h0 R) : CallsH PG id_carrackref11_Store_Height #[t0] h0 R :=
  callsF_by carrackref11_Store_Height.ann 200 mix Tryd.func35 (by kernel_rfl) (by kernel_rfl) (by kernel_rfl) (by kernel_rfl) (by simp [Tryd.ntmps35]) (carrackref11_Store_Height.eq t0 h0 R) H

def store_Store_Root (t0 : Value) (t1 : Value) (h0 : PH) (R : Value → PH → Prop) : Prop :=
 CallsH PG id_store_Store_at #[t0, t1] h0 fun v1 h2 =>
 popO (SemP PG (Instr.extract v1 0)) fun v3 =>
 popO (SemP PG (Instr.extract v1 1)) fun v4 =>
 ∀ r5, h2 r5 = none → bindH (PH.set h2 r5 (.cells (zcells PG T_store_block) T_store_block)) fun h6 =>
 SemH PG (storeS T_store_block (Value.pointer (some ⟨r5, 0, none⟩)) v3) h6 fun v7 h8 =>
 popO (SemP PG (Instr.fieldAt T_store_block (Value.pointer (some ⟨r5, 0, none⟩)) 1)) fun v9 =>
 popO (SemE PG h8 (Instr.loadAt T_string v9)) fun v10 =>
 R (Value.tuple #[v10, v4]) h8
def store_Store_Root.ann : Ann := { b := fun i => match i with  | _ => #[], ord := fun i => match i with  | _ => [], keep := fun i => match i with  | _ => [], n := 17 }
theorem store_Store_Root.eq (t0 : Value) (t1 : Value) (h0 : PH) (R : Value → PH → Prop) : codeF PG store_Store_Root.ann 200 (bodyOf Tryd.f14) (endH PG Tryd.f14 R) (fun t => (#[t0, t1] : Array Value).getD t undef) h0 = store_Store_Root t0 t1 h0 R := by kernel_rfl
theorem store_Store_Root.call {t0 : Value} {t1 : Value} {h0 : PH} {R : Value → PH → Prop} (H : store_Store_Root t0 t1 h0 R) : CallsH PG id_store_Store_Root #[t0, t1] h0 R :=
  callsF_by store_Store_Root.ann 200 mix Tryd.func14 (by kernel_rfl) (by kernel_rfl) (by kernel_rfl) (by kernel_rfl) (by simp [Tryd.ntmps14]) (store_Store_Root.eq t0 t1 h0 R) H

def carracklaw11_StoreBack_k91 (R : Value → PH → Prop) (t9 : Value) (t10 : Value) (h0 : PH) : Prop :=
 CallsH PG id_store_Store_Commit #[t9] h0 fun v92 h93 =>
 popO (SemP PG (Instr.extract v92 0)) fun v94 =>
 popO (SemP PG (Instr.extract v92 1)) fun v95 =>
 CallsH PG id_store_Store_Commit #[t10] h93 fun v96 h97 =>
 popO (SemP PG (Instr.extract v96 0)) fun v98 =>
 popO (SemP PG (Instr.extract v96 1)) fun v99 =>
 CallsH PG id_store_Store_Root #[t9, v94] h97 fun v100 h101 =>
 popO (SemP PG (Instr.extract v100 0)) fun v102 =>
 popO (SemP PG (Instr.extract v100 1)) fun v103 =>
 CallsH PG id_store_Store_Root #[t10, v98] h101 fun v104 h105 =>
 popO (SemP PG (Instr.extract v104 0)) fun v106 =>
 popO (SemP PG (Instr.extract v104 1)) fun v107 =>
 popO (SemE PG h105 (binS BinOp.eql T_api_Errno (.tmp 134) (.tmp 135) v95 v99)) fun v108 =>
 gopV (yV v108) true (fun k111 => k111 v94 h105) h105 fun v109 h110 =>
 gopV (yV v108) true (fun k114 => k114 v98 h110) h110 fun v112 h113 =>
 gopV (yV v108) true (fun k117 => popO (SemE PG h113 (binS BinOp.eql T_uint64 (.tmp 138) (.tmp 139) v109 v112)) fun v118 => k117 v118 h113) h113 fun v115 h116 =>
 popO (pickV v108 v115 (Value.bool false)) fun v119 =>
 gopV (yV v119) true (fun k122 => k122 v102 h116) h116 fun v120 h121 =>
 gopV (yV v119) true (fun k125 => k125 v106 h121) h121 fun v123 h124 =>
 gopV (yV v119) true (fun k128 => popO (SemE PG h124 (binS BinOp.eql T_string (.tmp 143) (.tmp 144) v120 v123)) fun v129 => k128 v129 h124) h124 fun v126 h127 =>
 popO (pickV v119 v126 (Value.bool false)) fun v130 =>
 gopV (yV v130) true (fun k133 => k133 t9 h127) h127 fun v131 h132 =>
 gopV (yV v130) true (fun k136 => CallsH PG id_store_Store_Len #[v131] h132 fun v137 h138 => k136 v137 h138) h132 fun v134 h135 =>
 gopV (yV v130) true (fun k141 => k141 t10 h135) h135 fun v139 h140 =>
 gopV (yV v130) true (fun k144 => CallsH PG id_store_Store_Len #[v139] h140 fun v145 h146 => k144 v145 h146) h140 fun v142 h143 =>
 gopV (yV v130) true (fun k149 => popO (SemE PG h143 (binS BinOp.eql T_int (.tmp 149) (.tmp 151) v134 v142)) fun v150 => k149 v150 h143) h143 fun v147 h148 =>
 popO (pickV v130 v147 (Value.bool false)) fun v151 =>
 R v151 h148
def carracklaw11_StoreBack_b57 (R : Value → PH → Prop) (n56 : List Value → PH → Prop) (t1 : Value) (t2 : Value) (t3 : Value) (t9 : Value) (t10 : Value) (t11 : Value) (t12 : Value) (t13 : Value) (h0 : PH) : Prop :=
 popO (SemP PG (Builtin.len_ #[T_sl_carrackref11_Act] T_int #[t1])) fun v58 =>
 popO (SemP PG (binOp BinOp.lss T_int t13 v58)) fun v59 =>
 condV v59
 (popO (SemP PG (Instr.indexAt T_sl_carrackref11_Act t1 t13)) fun v60 =>
 popO (SemE PG h0 (Instr.loadAt T_carrackref11_Act v60)) fun v61 =>
 CallsH PG id_carracklaw11_do #[t9, t11, v61] h0 fun v62 h63 =>
 popO (SemP PG (Instr.indexAt T_sl_carrackref11_Act t1 t13)) fun v64 =>
 popO (SemE PG h63 (Instr.loadAt T_carrackref11_Act v64)) fun v65 =>
 CallsH PG id_carracklaw11_do #[t10, t12, v65] h63 fun v66 h67 =>
 popO (SemP PG (binOp BinOp.add T_int t13 (Value.int IntKind.i64 1))) fun v68 =>
 n56 [t1, t2, t3, t9, t10, t11, t12, v68] h67)
 (CallsH PG id_store_Store_Get #[t9, t2] h0 fun v69 h70 =>
 popO (SemP PG (Instr.extract v69 0)) fun v71 =>
 popO (SemP PG (Instr.extract v69 1)) fun v72 =>
 CallsH PG id_store_Store_Set #[t9, t2, t3] h70 fun v73 h74 =>
 popO (SemE PG h74 (binS BinOp.neq T_api_Errno (.tmp 88) (.const (Value.int IntKind.i64 0)) v73 (Value.int IntKind.i64 0))) fun v75 =>
 condV v75
 (R (Value.bool true) h74)
 (CallsH PG id_store_Store_Get #[t9, t2] h74 fun v76 h77 =>
 popO (SemP PG (Instr.extract v76 0)) fun v78 =>
 popO (SemP PG (Instr.extract v76 1)) fun v79 =>
 popO (SemE PG h77 (binS BinOp.neq T_string (.tmp 96) (.tmp 97) v78 t3)) fun v80 =>
 gopV (yV v80) false (fun k83 => k83 v79 h77) h77 fun v81 h82 =>
 gopV (yV v80) false (fun k86 => popO (SemP PG (Op.unary UnOp.not v81)) fun v87 => k86 v87 h82) h82 fun v84 h85 =>
 popO (pickV v80 (Value.bool true) v84) fun v88 =>
 condV v88
 (R (Value.bool false) h85)
 (condV v72
 (CallsH PG id_store_Store_Set #[t9, t2, v71] h85 fun v89 h90 =>
 carracklaw11_StoreBack_k91 R t9 t10 h90)
 (CallsH PG id_store_Store_Delete #[t9, t2] h85 fun v152 h153 =>
 popO (SemE PG h153 (binS BinOp.neq T_api_Errno (.tmp 110) (.const (Value.int IntKind.i64 0)) v152 (Value.int IntKind.i64 0))) fun v154 =>
 condV v154
 (R (Value.bool false) h153)
 (carracklaw11_StoreBack_k91 R t9 t10 h153)))))
def carracklaw11_StoreBack (t0 : Value) (t1 : Value) (t2 : Value) (t3 : Value) (h0 : PH) (R : Value → PH → Prop) : Prop :=
 CallsH PG id_carracklaw11_awake #[] h0 fun v1 h2 =>
 popO (SemP PG (Op.unary UnOp.not v1)) fun v3 =>
 condV v3
 (R (Value.bool false) h2)
 (CallsH PG id_carracklaw11_few #[t1] h2 fun v4 h5 =>
 popO (SemP PG (Op.unary UnOp.not v4)) fun v6 =>
 gopV (yV v6) false (fun k9 => k9 t2 h5) h5 fun v7 h8 =>
 gopV (yV v6) false (fun k12 => popO (SemP PG (Builtin.len_ #[T_string] T_int #[v7])) fun v13 => k12 v13 h8) h8 fun v10 h11 =>
 gopV (yV v6) false (fun k16 => popO (SemP PG (binOp BinOp.gtr T_int v10 (Value.int IntKind.i64 300))) fun v17 => k16 v17 h11) h11 fun v14 h15 =>
 popO (pickV v6 (Value.bool true) v14) fun v18 =>
 gopV (yV v18) false (fun k21 => k21 t3 h15) h15 fun v19 h20 =>
 gopV (yV v18) false (fun k24 => popO (SemP PG (Builtin.len_ #[T_string] T_int #[v19])) fun v25 => k24 v25 h20) h20 fun v22 h23 =>
 gopV (yV v18) false (fun k28 => popO (SemP PG (binOp BinOp.gtr T_int v22 (Value.int IntKind.i64 300))) fun v29 => k28 v29 h23) h23 fun v26 h27 =>
 popO (pickV v18 (Value.bool true) v26) fun v30 =>
 gopV (yV v30) false (fun k33 => k33 t0 h27) h27 fun v31 h32 =>
 gopV (yV v30) false (fun k36 => popO (SemP PG (binOp BinOp.gtr T_uint64 v31 (Value.int IntKind.u64 4611686018427387904))) fun v37 => k36 v37 h32) h32 fun v34 h35 =>
 popO (pickV v30 (Value.bool true) v34) fun v38 =>
 condV v38
 (R (Value.bool true) h35)
 (CallsH PG id_store_New #[t0] h35 fun v39 h40 =>
 CallsH PG id_store_New #[t0] h40 fun v41 h42 =>
 CallsH PG id_carrackref11_New #[t0] h42 fun v43 h44 =>
 CallsH PG id_carrackref11_New #[t0] h44 fun v45 h46 =>
 popO (SemE PG h46 (binS BinOp.eql T_p_store_Store (.tmp 53) (.const (Value.pointer none)) v39 (Value.pointer none))) fun v47 =>
 gopV (yV v47) false (fun k50 => k50 v41 h46) h46 fun v48 h49 =>
 gopV (yV v47) false (fun k53 => popO (SemE PG h49 (binS BinOp.eql T_p_store_Store (.tmp 56) (.const (Value.pointer none)) v48 (Value.pointer none))) fun v54 => k53 v54 h49) h49 fun v51 h52 =>
 popO (pickV v47 (Value.bool true) v51) fun v55 =>
 condV v55
 (R (Value.bool false) h52)
 (LoopL [1, 2, 3, 9, 10, 11, 12, 13] (fun n56 ρ h => carracklaw11_StoreBack_b57 R n56 (ρ 1) (ρ 2) (ρ 3) (ρ 9) (ρ 10) (ρ 11) (ρ 12) (ρ 13) h) [t1, t2, t3, v39, v41, v43, v45, (Value.int IntKind.i64 0)] h52)))
def carracklaw11_StoreBack.ann : Ann := { b := fun i => match i with  | _ => #[], ord := fun i => match i with  | _ => [], keep := fun i => match i with | 10 => [1, 2, 3, 9, 10, 11, 12, 13] | _ => [], n := 154 }
theorem carracklaw11_StoreBack.eq (t0 : Value) (t1 : Value) (t2 : Value) (t3 : Value) (h0 : PH) (R : Value → PH → Prop) : codeF PG carracklaw11_StoreBack.ann 200 (bodyOf Tryd.f4) (endH PG Tryd.f4 R) (fun t => (#[t0, t1, t2, t3] : Array Value).getD t undef) h0 = carracklaw11_StoreBack t0 t1 t2 t3 h0 R := by kernel_rfl
theorem carracklaw11_StoreBack.call {t0 : Value} {t1 : Value} {t2 : Value} {t3 : Value} {h0 : PH} {R : Value → PH → Prop} (H : carracklaw11_StoreBack t0 t1 t2 t3 h0 R) : CallsH PG id_carracklaw11_StoreBack #[t0, t1, t2, t3] h0 R :=
  callsF_by carracklaw11_StoreBack.ann 200 mix Tryd.func4 (by kernel_rfl) (by kernel_rfl) (by kernel_rfl) (by kernel_rfl) (by simp [Tryd.ntmps4]) (carracklaw11_StoreBack.eq t0 t1 t2 t3 h0 R) H

def store_Store_Get (t0 : Value) (t1 : Value) (h0 : PH) (R : Value → PH → Prop) : Prop :=
 popO (SemP PG (nilS t0)) fun v1 =>
 popO (SemP PG (Instr.fieldAt T_store_Store v1 0)) fun v2 =>
 popO (SemE PG h0 (Instr.loadAt T_map_string_string v2)) fun v3 =>
 popO (SemE PG h0 (Instr.lookup T_map_string_string v3 t1 true)) fun v4 =>
 popO (SemP PG (Instr.extract v4 0)) fun v5 =>
 popO (SemP PG (Instr.extract v4 1)) fun v6 =>
 R (Value.tuple #[v5, v6]) h0
def store_Store_Get.ann : Ann := { b := fun i => match i with  | _ => #[], ord := fun i => match i with  | _ => [], keep := fun i => match i with  | _ => [], n := 19 }
theorem store_Store_Get.eq (t0 : Value) (t1 : Value) (h0 : PH) (R : Value → PH → Prop) : codeF PG store_Store_Get.ann 200 (bodyOf Tryd.f16) (endH PG Tryd.f16 R) (fun t => (#[t0, t1] : Array Value).getD t undef) h0 = store_Store_Get t0 t1 h0 R := by kernel_rfl
theorem store_Store_Get.call {t0 : Value} {t1 : Value} {h0 : PH} {R : Value → PH → Prop} (H : store_Store_Get t0 t1 h0 R) : CallsH PG id_store_Store_Get #[t0, t1] h0 R :=
  callsF_by store_Store_Get.ann 200 mix Tryd.func16 (by kernel_rfl) (by kernel_rfl) (by kernel_rfl) (by kernel_rfl) (by simp [Tryd.ntmps16]) (store_Store_Get.eq t0 t1 h0 R) H

def store_Store_Len (t0 : Value) (h0 : PH) (R : Value → PH → Prop) : Prop :=
 popO (SemP PG (nilS t0)) fun v1 =>
 popO (SemP PG (Instr.fieldAt T_store_Store v1 0)) fun v2 =>
 popO (SemE PG h0 (Instr.loadAt T_map_string_string v2)) fun v3 =>
 popO (SemE PG h0 (Builtin.len_ #[T_map_string_string] T_int #[v3])) fun v4 =>
 R v4 h0
def store_Store_Len.ann : Ann := { b := fun i => match i with  | _ => #[], ord := fun i => match i with  | _ => [], keep := fun i => match i with  | _ => [], n := 8 }
theorem store_Store_Len.eq (t0 : Value) (h0 : PH) (R : Value → PH → Prop) : codeF PG store_Store_Len.ann 200 (bodyOf Tryd.f20) (endH PG Tryd.f20 R) (fun t => (#[t0] : Array Value).getD t undef) h0 = store_Store_Len t0 h0 R := by kernel_rfl
theorem store_Store_Len.call {t0 : Value} {h0 : PH} {R : Value → PH → Prop} (H : store_Store_Len t0 h0 R) : CallsH PG id_store_Store_Len #[t0] h0 R :=
  callsF_by store_Store_Len.ann 200 mix Tryd.func20 (by kernel_rfl) (by kernel_rfl) (by kernel_rfl) (by kernel_rfl) (by simp [Tryd.ntmps20]) (store_Store_Len.eq t0 h0 R) H

def carracklaw11_StoreSame_k127 (R : Value → PH → Prop) (t0 : Value) (t7 : Value) (t8 : Value) (h0 : PH) : Prop :=
 CallsH PG id_store_Store_Commit #[t7] h0 fun v128 h129 =>
 popO (SemP PG (Instr.extract v128 0)) fun v130 =>
 popO (SemP PG (Instr.extract v128 1)) fun v131 =>
 CallsH PG id_store_Store_Commit #[t8] h129 fun v132 h133 =>
 popO (SemP PG (Instr.extract v132 0)) fun v134 =>
 popO (SemP PG (Instr.extract v132 1)) fun v135 =>
 CallsH PG id_store_Store_Root #[t7, v130] h133 fun v136 h137 =>
 popO (SemP PG (Instr.extract v136 0)) fun v138 =>
 popO (SemP PG (Instr.extract v136 1)) fun v139 =>
 CallsH PG id_store_Store_Root #[t8, v134] h137 fun v140 h141 =>
 popO (SemP PG (Instr.extract v140 0)) fun v142 =>
 popO (SemP PG (Instr.extract v140 1)) fun v143 =>
 CallsH PG id_store_Store_At #[t8, v134] h141 fun v144 h145 =>
 popO (SemP PG (Instr.extract v144 0)) fun v146 =>
 popO (SemP PG (Instr.extract v144 1)) fun v147 =>
 popO (SemE PG h145 (binS BinOp.eql T_api_Errno (.tmp 149) (.const (Value.int IntKind.i64 0)) v139 (Value.int IntKind.i64 0))) fun v148 =>
 gopV (yV v148) true (fun k151 => k151 v143 h145) h145 fun v149 h150 =>
 gopV (yV v148) true (fun k154 => popO (SemE PG h150 (binS BinOp.eql T_api_Errno (.tmp 152) (.const (Value.int IntKind.i64 0)) v149 (Value.int IntKind.i64 0))) fun v155 => k154 v155 h150) h150 fun v152 h153 =>
 popO (pickV v148 v152 (Value.bool false)) fun v156 =>
 gopV (yV v156) true (fun k159 => k159 v147 h153) h153 fun v157 h158 =>
 gopV (yV v156) true (fun k162 => popO (SemE PG h158 (binS BinOp.eql T_api_Errno (.tmp 156) (.const (Value.int IntKind.i64 0)) v157 (Value.int IntKind.i64 0))) fun v163 => k162 v163 h158) h158 fun v160 h161 =>
 popO (pickV v156 v160 (Value.bool false)) fun v164 =>
 gopV (yV v164) true (fun k167 => k167 v138 h161) h161 fun v165 h166 =>
 gopV (yV v164) true (fun k170 => k170 v142 h166) h166 fun v168 h169 =>
 gopV (yV v164) true (fun k173 => popO (SemE PG h169 (binS BinOp.eql T_string (.tmp 160) (.tmp 161) v165 v168)) fun v174 => k173 v174 h169) h169 fun v171 h172 =>
 popO (pickV v164 v171 (Value.bool false)) fun v175 =>
 gopV (yV v175) true (fun k178 => k178 v138 h172) h172 fun v176 h177 =>
 gopV (yV v175) true (fun k181 => k181 t0 h177) h177 fun v179 h180 =>
 gopV (yV v175) true (fun k184 => CallsH PG id_merkle_Root #[v179] h180 fun v185 h186 => k184 v185 h186) h180 fun v182 h183 =>
 gopV (yV v175) true (fun k189 => popO (SemE PG h183 (binS BinOp.eql T_string (.tmp 165) (.tmp 167) v176 v182)) fun v190 => k189 v190 h183) h183 fun v187 h188 =>
 popO (pickV v175 v187 (Value.bool false)) fun v191 =>
 gopV (yV v191) true (fun k194 => k194 v146 h188) h188 fun v192 h193 =>
 gopV (yV v191) true (fun k197 => k197 t0 h193) h193 fun v195 h196 =>
 gopV (yV v191) true (fun k200 => CallsH PG id_carrackref11_Pairs #[v192, v195] h196 fun v201 h202 => k200 v201 h202) h196 fun v198 h199 =>
 popO (pickV v191 v198 (Value.bool false)) fun v203 =>
 R v203 h199
def carracklaw11_StoreSame_b107 (R : Value → PH → Prop) (n106 : List Value → PH → Prop) (t0 : Value) (t2 : Value) (t7 : Value) (t8 : Value) (t9 : Value) (t11 : Value) (t12 : Value) (h0 : PH) : Prop :=
 popO (SemP PG (Builtin.len_ #[T_sl_api_Pair] T_int #[t11])) fun v108 =>
 popO (SemP PG (binOp BinOp.lss T_int t12 v108)) fun v109 =>
 condV v109
 (popO (SemP PG (Instr.indexAt T_sl_api_Pair t11 t12)) fun v110 =>
 popO (SemP PG (Instr.fieldAt T_api_Pair v110 0)) fun v111 =>
 popO (SemE PG h0 (Instr.loadAt T_string v111)) fun v112 =>
 CallsH PG id_store_Store_Set #[t8, v112, (Value.string { data := #[111, 108, 100] })] h0 fun v113 h114 =>
 popO (SemP PG (Instr.indexAt T_sl_api_Pair t11 t12)) fun v115 =>
 popO (SemP PG (Instr.fieldAt T_api_Pair v115 0)) fun v116 =>
 popO (SemE PG h114 (Instr.loadAt T_string v116)) fun v117 =>
 popO (SemP PG (Instr.indexAt T_sl_api_Pair t11 t12)) fun v118 =>
 popO (SemP PG (Instr.fieldAt T_api_Pair v118 1)) fun v119 =>
 popO (SemE PG h114 (Instr.loadAt T_string v119)) fun v120 =>
 CallsH PG id_store_Store_Set #[t8, v117, v120] h114 fun v121 h122 =>
 (popO (SemP PG (binOp BinOp.add T_int t12 (Value.int IntKind.i64 1))) fun v123 =>
 n106 [t0, t2, t7, t8, t9, t11, v123] h122))
 (popO (SemP PG (Op.unary UnOp.not t9)) fun v124 =>
 condV v124
 (CallsH PG id_store_Store_Delete #[t8, t2] h0 fun v125 h126 =>
 carracklaw11_StoreSame_k127 R t0 t7 t8 h126)
 (carracklaw11_StoreSame_k127 R t0 t7 t8 h0))
def carracklaw11_StoreSame_b56 (R : Value → PH → Prop) (n55 : List Value → PH → Prop) (t0 : Value) (t1 : Value) (t2 : Value) (t7 : Value) (t8 : Value) (t9 : Value) (t10 : Value) (h0 : PH) : Prop :=
 popO (SemP PG (Builtin.len_ #[T_sl_api_Pair] T_int #[t0])) fun v57 =>
 popO (SemP PG (binOp BinOp.lss T_int t10 v57)) fun v58 =>
 condV v58
 (gopV (yV t9) false (fun k61 => k61 t0 h0) h0 fun v59 h60 =>
 gopV (yV t9) false (fun k64 => k64 t10 h60) h60 fun v62 h63 =>
 gopV (yV t9) false (fun k67 => popO (SemP PG (Instr.indexAt T_sl_api_Pair v59 v62)) fun v68 => k67 v68 h63) h63 fun v65 h66 =>
 gopV (yV t9) false (fun k71 => popO (SemP PG (Instr.fieldAt T_api_Pair v65 0)) fun v72 => k71 v72 h66) h66 fun v69 h70 =>
 gopV (yV t9) false (fun k75 => popO (SemE PG h70 (Instr.loadAt T_string v69)) fun v76 => k75 v76 h70) h70 fun v73 h74 =>
 gopV (yV t9) false (fun k79 => k79 t2 h74) h74 fun v77 h78 =>
 gopV (yV t9) false (fun k82 => popO (SemE PG h78 (binS BinOp.eql T_string (.tmp 63) (.tmp 64) v73 v77)) fun v83 => k82 v83 h78) h78 fun v80 h81 =>
 popO (pickV t9 (Value.bool true) v80) fun v84 =>
 popO (SemP PG (Instr.indexAt T_sl_api_Pair t0 t10)) fun v85 =>
 popO (SemP PG (Instr.fieldAt T_api_Pair v85 0)) fun v86 =>
 popO (SemE PG h81 (Instr.loadAt T_string v86)) fun v87 =>
 popO (SemP PG (Instr.indexAt T_sl_api_Pair t0 t10)) fun v88 =>
 popO (SemP PG (Instr.fieldAt T_api_Pair v88 1)) fun v89 =>
 popO (SemE PG h81 (Instr.loadAt T_string v89)) fun v90 =>
 CallsH PG id_store_Store_Set #[t7, v87, v90] h81 fun v91 h92 =>
 (popO (SemP PG (binOp BinOp.add T_int t10 (Value.int IntKind.i64 1))) fun v93 =>
 n55 [t0, t1, t2, t7, t8, v84, v93] h92))
 (popO (SemP PG (Instr.sliceAt T_sl_api_Pair t0 (some t1) none none)) fun v94 =>
 popO (SemP PG (Instr.sliceAt T_sl_api_Pair t0 none (some t1) none)) fun v95 =>
 popO (SemA PG (Instr.buildSlice T_sl_api_Pair 0 #[])) fun x97 => ∀ r96, h0 r96 = none → popO (SemP PG (x97.2 r96)) fun v98 => bindH (PH.set h0 r96 x97.1) fun h99 =>
 SemH PG (Builtin.append_ #[T_sl_api_Pair, T_sl_api_Pair] T_sl_api_Pair #[v98, v94]) h99 fun v100 h101 =>
 (SemH PG (Builtin.append_ #[T_sl_api_Pair, T_sl_api_Pair] T_sl_api_Pair #[v100, v95]) h101 fun v102 h103 =>
 (CallsH PG id_store_Store_Set #[t8, t2, (Value.string { data := #[103, 111, 110, 101] })] h103 fun v104 h105 =>
 LoopL [0, 2, 7, 8, 9, 11, 12] (fun n106 ρ h => carracklaw11_StoreSame_b107 R n106 (ρ 0) (ρ 2) (ρ 7) (ρ 8) (ρ 9) (ρ 11) (ρ 12) h) [t0, t2, t7, t8, t9, v102, (Value.int IntKind.i64 0)] h105)))
def carracklaw11_StoreSame (t0 : Value) (t1 : Value) (t2 : Value) (h0 : PH) (R : Value → PH → Prop) : Prop :=
 CallsH PG id_carracklaw11_awake #[] h0 fun v1 h2 =>
 popO (SemP PG (Op.unary UnOp.not v1)) fun v3 =>
 condV v3
 (R (Value.bool false) h2)
 (popO (SemP PG (Builtin.len_ #[T_sl_api_Pair] T_int #[t0])) fun v4 =>
 popO (SemP PG (binOp BinOp.gtr T_int v4 (Value.int IntKind.i64 40))) fun v5 =>
 gopV (yV v5) false (fun k8 => k8 t0 h2) h2 fun v6 h7 =>
 gopV (yV v5) false (fun k11 => CallsH PG id_merkle_Check #[v6] h7 fun v12 h13 => k11 v12 h13) h7 fun v9 h10 =>
 gopV (yV v5) false (fun k16 => popO (SemE PG h10 (binS BinOp.neq T_api_Errno (.tmp 30) (.const (Value.int IntKind.i64 0)) v9 (Value.int IntKind.i64 0))) fun v17 => k16 v17 h10) h10 fun v14 h15 =>
 popO (pickV v5 (Value.bool true) v14) fun v18 =>
 gopV (yV v18) false (fun k21 => k21 t1 h15) h15 fun v19 h20 =>
 gopV (yV v18) false (fun k24 => popO (SemP PG (binOp BinOp.lss T_int v19 (Value.int IntKind.i64 0))) fun v25 => k24 v25 h20) h20 fun v22 h23 =>
 popO (pickV v18 (Value.bool true) v22) fun v26 =>
 gopV (yV v26) false (fun k29 => k29 t1 h23) h23 fun v27 h28 =>
 gopV (yV v26) false (fun k32 => k32 t0 h28) h28 fun v30 h31 =>
 gopV (yV v26) false (fun k35 => popO (SemP PG (Builtin.len_ #[T_sl_api_Pair] T_int #[v30])) fun v36 => k35 v36 h31) h31 fun v33 h34 =>
 gopV (yV v26) false (fun k39 => popO (SemP PG (binOp BinOp.gtr T_int v27 v33)) fun v40 => k39 v40 h34) h34 fun v37 h38 =>
 popO (pickV v26 (Value.bool true) v37) fun v41 =>
 condV v41
 (R (Value.bool true) h38)
 (CallsH PG id_store_New #[(Value.int IntKind.u64 1)] h38 fun v42 h43 =>
 CallsH PG id_store_New #[(Value.int IntKind.u64 9)] h43 fun v44 h45 =>
 popO (SemE PG h45 (binS BinOp.eql T_p_store_Store (.tmp 45) (.const (Value.pointer none)) v42 (Value.pointer none))) fun v46 =>
 gopV (yV v46) false (fun k49 => k49 v44 h45) h45 fun v47 h48 =>
 gopV (yV v46) false (fun k52 => popO (SemE PG h48 (binS BinOp.eql T_p_store_Store (.tmp 48) (.const (Value.pointer none)) v47 (Value.pointer none))) fun v53 => k52 v53 h48) h48 fun v50 h51 =>
 popO (pickV v46 (Value.bool true) v50) fun v54 =>
 condV v54
 (R (Value.bool false) h51)
 (LoopL [0, 1, 2, 7, 8, 9, 10] (fun n55 ρ h => carracklaw11_StoreSame_b56 R n55 (ρ 0) (ρ 1) (ρ 2) (ρ 7) (ρ 8) (ρ 9) (ρ 10) h) [t0, t1, t2, v42, v44, (Value.bool false), (Value.int IntKind.i64 0)] h51)))
def carracklaw11_StoreSame.ann : Ann := { b := fun i => match i with | 13 => #[0, 0, 0, 6, 14, 30, 0, 0, 192, 448, 960, 2047] | 14 => #[0, 0, 0, 6, 15, 0, 0, 96, 255, 511] | 20 => #[0, 0, 0, 6, 14, 30, 0, 0, 192, 448, 960, 2047] | _ => #[], ord := fun i => match i with | 13 => [0, 1, 2, 3, 4, 5, 6, 7, 8, 9, 10, 11] | 14 => [1, 2, 3, 5, 6, 7, 0, 4, 8, 9] | 20 => [0, 1, 2, 3, 4, 5, 6, 7, 8, 9, 10, 11] | _ => [], keep := fun i => match i with | 10 => [0, 1, 2, 7, 8, 9, 10] | 17 => [0, 2, 7, 8, 9, 11, 12] | _ => [], n := 175 }
theorem carracklaw11_StoreSame.eq (t0 : Value) (t1 : Value) (t2 : Value) (h0 : PH) (R : Value → PH → Prop) : codeF PG carracklaw11_StoreSame.ann 200 (bodyOf Tryd.f5) (endH PG Tryd.f5 R) (fun t => (#[t0, t1, t2] : Array Value).getD t undef) h0 = carracklaw11_StoreSame t0 t1 t2 h0 R := by kernel_rfl
theorem carracklaw11_StoreSame.call {t0 : Value} {t1 : Value} {t2 : Value} {h0 : PH} {R : Value → PH → Prop} (H : carracklaw11_StoreSame t0 t1 t2 h0 R) : CallsH PG id_carracklaw11_StoreSame #[t0, t1, t2] h0 R :=
  callsF_by carracklaw11_StoreSame.ann 200 mix Tryd.func5 (by kernel_rfl) (by kernel_rfl) (by kernel_rfl) (by kernel_rfl) (by simp [Tryd.ntmps5]) (carracklaw11_StoreSame.eq t0 t1 t2 h0 R) H

def merkle_Check_b56 (R : Value → PH → Prop) (n55 : List Value → PH → Prop) (t0 : Value) (t35 : Value) (t36 : Value) (h0 : PH) : Prop :=
 popO (SemP PG (binOp BinOp.lss T_int t36 t35)) fun v57 =>
 condV v57
 (popO (SemP PG (Instr.indexAt T_sl_api_Pair t0 t36)) fun v58 =>
 popO (SemP PG (Instr.fieldAt T_api_Pair v58 0)) fun v59 =>
 popO (SemE PG h0 (Instr.loadAt T_string v59)) fun v60 =>
 popO (SemP PG (binOp BinOp.add T_int t36 (Value.int IntKind.i64 1))) fun v61 =>
 popO (SemP PG (Instr.indexAt T_sl_api_Pair t0 v61)) fun v62 =>
 popO (SemP PG (Instr.fieldAt T_api_Pair v62 0)) fun v63 =>
 popO (SemE PG h0 (Instr.loadAt T_string v63)) fun v64 =>
 popO (SemP PG (binOp BinOp.geq T_string v60 v64)) fun v65 =>
 condV v65
 (R (Value.int IntKind.i64 15) h0)
 (popO (SemP PG (binOp BinOp.add T_int t36 (Value.int IntKind.i64 1))) fun v66 =>
 n55 [t0, t35, v66] h0))
 (R (Value.int IntKind.i64 0) h0)
def merkle_Check_b5 (R : Value → PH → Prop) (n4 : List Value → PH → Prop) (t0 : Value) (t9 : Value) (t10 : Value) (t11 : Value) (h0 : PH) : Prop :=
 popO (SemP PG (binOp BinOp.lss T_int t11 t10)) fun v6 =>
 condV v6
 (popO (SemP PG (Instr.indexAt T_sl_api_Pair t9 t11)) fun v7 =>
 popO (SemE PG h0 (Instr.loadAt T_api_Pair v7)) fun v8 =>
 ∀ r9, h0 r9 = none → bindH (PH.set h0 r9 (.cells (zcells PG T_api_Pair) T_api_Pair)) fun h10 =>
 SemH PG (storeS T_api_Pair (Value.pointer (some ⟨r9, 0, none⟩)) v8) h10 fun v11 h12 =>
 popO (SemP PG (Instr.fieldAt T_api_Pair (Value.pointer (some ⟨r9, 0, none⟩)) 0)) fun v13 =>
 popO (SemE PG h12 (Instr.loadAt T_string v13)) fun v14 =>
 popO (SemP PG (Builtin.len_ #[T_string] T_int #[v14])) fun v15 =>
 popO (SemP PG (binOp BinOp.lss T_int v15 (Value.int IntKind.i64 1))) fun v16 =>
 gopV (yV v16) false (fun k19 => popO (SemP PG (Instr.fieldAt T_api_Pair (Value.pointer (some ⟨r9, 0, none⟩)) 0)) fun v20 => k19 v20 h12) h12 fun v17 h18 =>
 gopV (yV v16) false (fun k23 => popO (SemE PG h18 (Instr.loadAt T_string v17)) fun v24 => k23 v24 h18) h18 fun v21 h22 =>
 gopV (yV v16) false (fun k27 => popO (SemP PG (Builtin.len_ #[T_string] T_int #[v21])) fun v28 => k27 v28 h22) h22 fun v25 h26 =>
 gopV (yV v16) false (fun k31 => popO (SemP PG (binOp BinOp.gtr T_int v25 (Value.int IntKind.i64 16))) fun v32 => k31 v32 h26) h26 fun v29 h30 =>
 popO (pickV v16 (Value.bool true) v29) fun v33 =>
 gopV (yV v33) false (fun k36 => popO (SemP PG (Instr.fieldAt T_api_Pair (Value.pointer (some ⟨r9, 0, none⟩)) 1)) fun v37 => k36 v37 h30) h30 fun v34 h35 =>
 gopV (yV v33) false (fun k40 => popO (SemE PG h35 (Instr.loadAt T_string v34)) fun v41 => k40 v41 h35) h35 fun v38 h39 =>
 gopV (yV v33) false (fun k44 => popO (SemP PG (Builtin.len_ #[T_string] T_int #[v38])) fun v45 => k44 v45 h39) h39 fun v42 h43 =>
 gopV (yV v33) false (fun k48 => popO (SemP PG (binOp BinOp.gtr T_int v42 (Value.int IntKind.i64 64))) fun v49 => k48 v49 h43) h43 fun v46 h47 =>
 popO (pickV v33 (Value.bool true) v46) fun v50 =>
 condV v50
 (R (Value.int IntKind.i64 1) h47)
 (popO (SemP PG (binOp BinOp.add T_int t11 (Value.int IntKind.i64 1))) fun v51 =>
 n4 [t0, t9, t10, v51] h47))
 (popO (SemP PG (Builtin.len_ #[T_sl_api_Pair] T_int #[t0])) fun v52 =>
 popO (SemP PG (binOp BinOp.sub T_int v52 (Value.int IntKind.i64 1))) fun v53 =>
 popO (SemP PG (Builtin.max_ #[T_int, T_int] T_int #[(Value.int IntKind.i64 0), v53])) fun v54 =>
 LoopL [0, 35, 36] (fun n55 ρ h => merkle_Check_b56 R n55 (ρ 0) (ρ 35) (ρ 36) h) [t0, v54, (Value.int IntKind.i64 0)] h0)
def merkle_Check (t0 : Value) (h0 : PH) (R : Value → PH → Prop) : Prop :=
 popO (SemP PG (Builtin.len_ #[T_sl_api_Pair] T_int #[t0])) fun v1 =>
 popO (SemP PG (binOp BinOp.gtr T_int v1 (Value.int IntKind.i64 4096))) fun v2 =>
 condV v2
 (R (Value.int IntKind.i64 1) h0)
 (popO (SemP PG (Builtin.len_ #[T_sl_api_Pair] T_int #[t0])) fun v3 =>
 LoopL [0, 9, 10, 11] (fun n4 ρ h => merkle_Check_b5 R n4 (ρ 0) (ρ 9) (ρ 10) (ρ 11) h) [t0, t0, v3, (Value.int IntKind.i64 0)] h0)
def merkle_Check.ann : Ann := { b := fun i => match i with | 12 => #[0, 0, 3, 7, 15, 0, 0, 64, 224, 480, 992, 2047] | _ => #[], ord := fun i => match i with | 12 => [0, 1, 2, 3, 4, 5, 6, 7, 8, 9, 10, 11] | _ => [], keep := fun i => match i with | 4 => [0, 9, 10, 11] | 10 => [0, 35, 36] | _ => [], n := 52 }
theorem merkle_Check.eq (t0 : Value) (h0 : PH) (R : Value → PH → Prop) : codeF PG merkle_Check.ann 200 (bodyOf Tryd.f21) (endH PG Tryd.f21 R) (fun t => (#[t0] : Array Value).getD t undef) h0 = merkle_Check t0 h0 R := by kernel_rfl
theorem merkle_Check.call {t0 : Value} {h0 : PH} {R : Value → PH → Prop} (H : merkle_Check t0 h0 R) : CallsH PG id_merkle_Check #[t0] h0 R :=
  callsF_by merkle_Check.ann 200 mix Tryd.func21 (by kernel_rfl) (by kernel_rfl) (by kernel_rfl) (by kernel_rfl) (by simp [Tryd.ntmps21]) (merkle_Check.eq t0 h0 R) H

def carrackref11_Pairs_b5 (R : Value → PH → Prop) (n4 : List Value → PH → Prop) (t0 : Value) (t1 : Value) (t5 : Value) (h0 : PH) : Prop :=
 popO (SemP PG (Builtin.len_ #[T_sl_api_Pair] T_int #[t0])) fun v6 =>
 popO (SemP PG (binOp BinOp.lss T_int t5 v6)) fun v7 =>
 condV v7
 (popO (SemP PG (Instr.indexAt T_sl_api_Pair t0 t5)) fun v8 =>
 popO (SemE PG h0 (Instr.loadAt T_api_Pair v8)) fun v9 =>
 popO (SemP PG (Instr.indexAt T_sl_api_Pair t1 t5)) fun v10 =>
 popO (SemE PG h0 (Instr.loadAt T_api_Pair v10)) fun v11 =>
 popO (SemE PG h0 (binS BinOp.neq T_api_Pair (.tmp 20) (.tmp 24) v9 v11)) fun v12 =>
 condV v12
 (R (Value.bool false) h0)
 (popO (SemP PG (binOp BinOp.add T_int t5 (Value.int IntKind.i64 1))) fun v13 =>
 n4 [t0, t1, v13] h0))
 (R (Value.bool true) h0)
def carrackref11_Pairs (t0 : Value) (t1 : Value) (h0 : PH) (R : Value → PH → Prop) : Prop :=
 popO (SemP PG (Builtin.len_ #[T_sl_api_Pair] T_int #[t0])) fun v1 =>
 popO (SemP PG (Builtin.len_ #[T_sl_api_Pair] T_int #[t1])) fun v2 =>
 popO (SemE PG h0 (binS BinOp.neq T_int (.tmp 7) (.tmp 9) v1 v2)) fun v3 =>
 condV v3
 (R (Value.bool false) h0)
 (LoopL [0, 1, 5] (fun n4 ρ h => carrackref11_Pairs_b5 R n4 (ρ 0) (ρ 1) (ρ 5) h) [t0, t1, (Value.int IntKind.i64 0)] h0)
def carrackref11_Pairs.ann : Ann := { b := fun i => match i with | 6 => #[0, 0, 3, 7, 0, 0, 48, 112, 255] | _ => #[], ord := fun i => match i with | 6 => [0, 1, 2, 3, 4, 5, 6, 7, 8] | _ => [], keep := fun i => match i with | 4 => [0, 1, 5] | _ => [], n := 26 }
theorem carrackref11_Pairs.eq (t0 : Value) (t1 : Value) (h0 : PH) (R : Value → PH → Prop) : codeF PG carrackref11_Pairs.ann 200 (bodyOf Tryd.f23) (endH PG Tryd.f23 R) (fun t => (#[t0, t1] : Array Value).getD t undef) h0 = carrackref11_Pairs t0 t1 h0 R := by kernel_rfl
theorem carrackref11_Pairs.call {t0 : Value} {t1 : Value} {h0 : PH} {R : Value → PH → Prop} (H : carrackref11_Pairs t0 t1 h0 R) : CallsH PG id_carrackref11_Pairs #[t0, t1] h0 R :=
  callsF_by carrackref11_Pairs.ann 200 mix Tryd.func23 (by kernel_rfl) (by kernel_rfl) (by kernel_rfl) (by kernel_rfl) (by simp [Tryd.ntmps23]) (carrackref11_Pairs.eq t0 t1 h0 R) H

def carracklaw11_StoreKeeps_b123 (R : Value → PH → Prop) (n122 : List Value → PH → Prop) (t7 : Value) (t10 : Value) (t11 : Value) (t12 : Value) (t13 : Value) (t20 : Value) (h0 : PH) : Prop :=
 popO (SemP PG (binOp BinOp.lss T_int t20 t11)) fun v124 =>
 condV v124
 (popO (SemP PG (convert T_int T_uint64 t20)) fun v125 =>
 popO (SemP PG (binOp BinOp.sub T_uint64 t10 v125)) fun v126 =>
 CallsH PG id_store_Store_At #[t7, v126] h0 fun v127 h128 =>
 popO (SemP PG (Instr.extract v127 0)) fun v129 =>
 popO (SemP PG (Instr.extract v127 1)) fun v130 =>
 popO (SemP PG (convert T_int T_uint64 t20)) fun v131 =>
 popO (SemP PG (binOp BinOp.sub T_uint64 t10 v131)) fun v132 =>
 CallsH PG id_store_Store_Root #[t7, v132] h128 fun v133 h134 =>
 popO (SemP PG (Instr.extract v133 0)) fun v135 =>
 popO (SemP PG (Instr.extract v133 1)) fun v136 =>
 popO (SemE PG h134 (binS BinOp.neq T_api_Errno (.tmp 148) (.const (Value.int IntKind.i64 0)) v130 (Value.int IntKind.i64 0))) fun v137 =>
 gopV (yV v137) false (fun k140 => k140 v136 h134) h134 fun v138 h139 =>
 gopV (yV v137) false (fun k143 => popO (SemE PG h139 (binS BinOp.neq T_api_Errno (.tmp 151) (.const (Value.int IntKind.i64 0)) v138 (Value.int IntKind.i64 0))) fun v144 => k143 v144 h139) h139 fun v141 h142 =>
 popO (pickV v137 (Value.bool true) v141) fun v145 =>
 gopV (yV v145) false (fun k148 => k148 v135 h142) h142 fun v146 h147 =>
 gopV (yV v145) false (fun k151 => k151 t13 h147) h147 fun v149 h150 =>
 gopV (yV v145) false (fun k154 => k154 t20 h150) h150 fun v152 h153 =>
 gopV (yV v145) false (fun k157 => popO (SemP PG (Instr.indexAt T_sl_string v149 v152)) fun v158 => k157 v158 h153) h153 fun v155 h156 =>
 gopV (yV v145) false (fun k161 => popO (SemE PG h156 (Instr.loadAt T_string v155)) fun v162 => k161 v162 h156) h156 fun v159 h160 =>
 gopV (yV v145) false (fun k165 => popO (SemE PG h160 (binS BinOp.neq T_string (.tmp 155) (.tmp 159) v146 v159)) fun v166 => k165 v166 h160) h160 fun v163 h164 =>
 popO (pickV v145 (Value.bool true) v163) fun v167 =>
 gopV (yV v167) false (fun k170 => k170 v129 h164) h164 fun v168 h169 =>
 gopV (yV v167) false (fun k173 => k173 t12 h169) h169 fun v171 h172 =>
 gopV (yV v167) false (fun k176 => k176 t20 h172) h172 fun v174 h175 =>
 gopV (yV v167) false (fun k179 => popO (SemP PG (Instr.indexAt T_sl_sl_api_Pair v171 v174)) fun v180 => k179 v180 h175) h175 fun v177 h178 =>
 gopV (yV v167) false (fun k183 => popO (SemE PG h178 (Instr.loadAt T_sl_api_Pair v177)) fun v184 => k183 v184 h178) h178 fun v181 h182 =>
 gopV (yV v167) false (fun k187 => CallsH PG id_carrackref11_Pairs #[v168, v181] h182 fun v188 h189 => k187 v188 h189) h182 fun v185 h186 =>
 gopV (yV v167) false (fun k192 => popO (SemP PG (Op.unary UnOp.not v185)) fun v193 => k192 v193 h186) h186 fun v190 h191 =>
 popO (pickV v167 (Value.bool true) v190) fun v194 =>
 condV v194
 (R (Value.bool false) h191)
 (popO (SemP PG (binOp BinOp.add T_int t20 (Value.int IntKind.i64 1))) fun v195 =>
 n122 [t7, t10, t11, t12, t13, v195] h191))
 (CallsH PG id_store_Store_Height #[t7] h0 fun v196 h197 =>
 popO (SemP PG (binOp BinOp.sub T_uint64 v196 t10)) fun v198 =>
 CallsH PG id_store_Store_Blocks #[t7] h197 fun v199 h200 =>
 popO (SemP PG (binOp BinOp.sub T_int v199 t11)) fun v201 =>
 popO (SemP PG (convert T_int T_uint64 v201)) fun v202 =>
 popO (SemE PG h200 (binS BinOp.eql T_uint64 (.tmp 174) (.tmp 179) v198 v202)) fun v203 =>
 R v203 h200)
def carracklaw11_StoreKeeps_b114 (R : Value → PH → Prop) (n113 : List Value → PH → Prop) (t2 : Value) (t7 : Value) (t8 : Value) (t10 : Value) (t11 : Value) (t12 : Value) (t13 : Value) (t19 : Value) (h0 : PH) : Prop :=
 popO (SemP PG (Builtin.len_ #[T_sl_carrackref11_Act] T_int #[t2])) fun v115 =>
 popO (SemP PG (binOp BinOp.lss T_int t19 v115)) fun v116 =>
 condV v116
 (popO (SemP PG (Instr.indexAt T_sl_carrackref11_Act t2 t19)) fun v117 =>
 popO (SemE PG h0 (Instr.loadAt T_carrackref11_Act v117)) fun v118 =>
 CallsH PG id_carracklaw11_do #[t7, t8, v118] h0 fun v119 h120 =>
 popO (SemP PG (binOp BinOp.add T_int t19 (Value.int IntKind.i64 1))) fun v121 =>
 n113 [t2, t7, t8, t10, t11, t12, t13, v121] h120)
 (LoopL [7, 10, 11, 12, 13, 20] (fun n122 ρ h => carracklaw11_StoreKeeps_b123 R n122 (ρ 7) (ρ 10) (ρ 11) (ρ 12) (ρ 13) (ρ 20) h) [t7, t10, t11, t12, t13, (Value.int IntKind.i64 0)] h0)
def carracklaw11_StoreKeeps_b48 (R : Value → PH → Prop) (n47 : List Value → PH → Prop) (t2 : Value) (t7 : Value) (t8 : Value) (t10 : Value) (t11 : Value) (t12 : Value) (t13 : Value) (t14 : Value) (h0 : PH) : Prop :=
 popO (SemP PG (binOp BinOp.lss T_int t14 t11)) fun v49 =>
 condV v49
 (popO (SemP PG (convert T_int T_uint64 t14)) fun v50 =>
 popO (SemP PG (binOp BinOp.sub T_uint64 t10 v50)) fun v51 =>
 CallsH PG id_store_Store_At #[t7, v51] h0 fun v52 h53 =>
 popO (SemP PG (Instr.extract v52 0)) fun v54 =>
 popO (SemP PG (Instr.extract v52 1)) fun v55 =>
 popO (SemP PG (convert T_int T_uint64 t14)) fun v56 =>
 popO (SemP PG (binOp BinOp.sub T_uint64 t10 v56)) fun v57 =>
 CallsH PG id_store_Store_Root #[t7, v57] h53 fun v58 h59 =>
 popO (SemP PG (Instr.extract v58 0)) fun v60 =>
 popO (SemP PG (Instr.extract v58 1)) fun v61 =>
 popO (SemE PG h59 (binS BinOp.neq T_api_Errno (.tmp 87) (.const (Value.int IntKind.i64 0)) v55 (Value.int IntKind.i64 0))) fun v62 =>
 gopV (yV v62) false (fun k65 => k65 v61 h59) h59 fun v63 h64 =>
 gopV (yV v62) false (fun k68 => popO (SemE PG h64 (binS BinOp.neq T_api_Errno (.tmp 90) (.const (Value.int IntKind.i64 0)) v63 (Value.int IntKind.i64 0))) fun v69 => k68 v69 h64) h64 fun v66 h67 =>
 popO (pickV v62 (Value.bool true) v66) fun v70 =>
 gopV (yV v70) false (fun k73 => k73 v54 h67) h67 fun v71 h72 =>
 gopV (yV v70) false (fun k76 => CallsH PG id_merkle_Check #[v71] h72 fun v77 h78 => k76 v77 h78) h72 fun v74 h75 =>
 gopV (yV v70) false (fun k81 => popO (SemE PG h75 (binS BinOp.neq T_api_Errno (.tmp 95) (.const (Value.int IntKind.i64 0)) v74 (Value.int IntKind.i64 0))) fun v82 => k81 v82 h75) h75 fun v79 h80 =>
 popO (pickV v70 (Value.bool true) v79) fun v83 =>
 gopV (yV v83) false (fun k86 => k86 v54 h80) h80 fun v84 h85 =>
 gopV (yV v83) false (fun k89 => CallsH PG id_merkle_Root #[v84] h85 fun v90 h91 => k89 v90 h91) h85 fun v87 h88 =>
 gopV (yV v83) false (fun k94 => k94 v60 h88) h88 fun v92 h93 =>
 gopV (yV v83) false (fun k97 => popO (SemE PG h93 (binS BinOp.neq T_string (.tmp 100) (.tmp 101) v87 v92)) fun v98 => k97 v98 h93) h93 fun v95 h96 =>
 popO (pickV v83 (Value.bool true) v95) fun v99 =>
 condV v99
 (R (Value.bool false) h96)
 (popO (SemA PG (Instr.buildSlice T_sl_sl_api_Pair 1 #[(0, v54)])) fun x101 => ∀ r100, h96 r100 = none → popO (SemP PG (x101.2 r100)) fun v102 => bindH (PH.set h96 r100 x101.1) fun h103 =>
 SemH PG (Builtin.append_ #[T_sl_sl_api_Pair, T_sl_sl_api_Pair] T_sl_sl_api_Pair #[t12, v102]) h103 fun v104 h105 =>
 popO (SemA PG (Instr.buildSlice T_sl_string 1 #[(0, v60)])) fun x107 => ∀ r106, h105 r106 = none → popO (SemP PG (x107.2 r106)) fun v108 => bindH (PH.set h105 r106 x107.1) fun h109 =>
 SemH PG (Builtin.append_ #[T_sl_string, T_sl_string] T_sl_string #[t13, v108]) h109 fun v110 h111 =>
 popO (SemP PG (binOp BinOp.add T_int t14 (Value.int IntKind.i64 1))) fun v112 =>
 n47 [t2, t7, t8, t10, t11, v104, v110, v112] h111))
 (LoopL [2, 7, 8, 10, 11, 12, 13, 19] (fun n113 ρ h => carracklaw11_StoreKeeps_b114 R n113 (ρ 2) (ρ 7) (ρ 8) (ρ 10) (ρ 11) (ρ 12) (ρ 13) (ρ 19) h) [t2, t7, t8, t10, t11, t12, t13, (Value.int IntKind.i64 0)] h0)
def carracklaw11_StoreKeeps_b26 (R : Value → PH → Prop) (n25 : List Value → PH → Prop) (t1 : Value) (t2 : Value) (t7 : Value) (t8 : Value) (t9 : Value) (h0 : PH) : Prop :=
 popO (SemP PG (Builtin.len_ #[T_sl_carrackref11_Act] T_int #[t1])) fun v27 =>
 popO (SemP PG (binOp BinOp.lss T_int t9 v27)) fun v28 =>
 condV v28
 (popO (SemP PG (Instr.indexAt T_sl_carrackref11_Act t1 t9)) fun v29 =>
 popO (SemE PG h0 (Instr.loadAt T_carrackref11_Act v29)) fun v30 =>
 CallsH PG id_carracklaw11_do #[t7, t8, v30] h0 fun v31 h32 =>
 popO (SemP PG (binOp BinOp.add T_int t9 (Value.int IntKind.i64 1))) fun v33 =>
 n25 [t1, t2, t7, t8, v33] h32)
 (CallsH PG id_store_Store_Height #[t7] h0 fun v34 h35 =>
 CallsH PG id_store_Store_Blocks #[t7] h35 fun v36 h37 =>
 popO (SemP PG (binOp BinOp.lss T_int v36 (Value.int IntKind.i64 1))) fun v38 =>
 gopV (yV v38) false (fun k41 => k41 v36 h37) h37 fun v39 h40 =>
 gopV (yV v38) false (fun k44 => popO (SemP PG (binOp BinOp.gtr T_int v39 (Value.int IntKind.i64 100))) fun v45 => k44 v45 h40) h40 fun v42 h43 =>
 popO (pickV v38 (Value.bool true) v42) fun v46 =>
 condV v46
 (R (Value.bool false) h43)
 (LoopL [2, 7, 8, 10, 11, 12, 13, 14] (fun n47 ρ h => carracklaw11_StoreKeeps_b48 R n47 (ρ 2) (ρ 7) (ρ 8) (ρ 10) (ρ 11) (ρ 12) (ρ 13) (ρ 14) h) [t2, t7, t8, v34, v36, (Value.slice none 0 0), (Value.slice none 0 0), (Value.int IntKind.i64 0)] h43))
def carracklaw11_StoreKeeps (t0 : Value) (t1 : Value) (t2 : Value) (h0 : PH) (R : Value → PH → Prop) : Prop :=
 CallsH PG id_carracklaw11_awake #[] h0 fun v1 h2 =>
 popO (SemP PG (Op.unary UnOp.not v1)) fun v3 =>
 condV v3
 (R (Value.bool false) h2)
 (CallsH PG id_carracklaw11_few #[t1] h2 fun v4 h5 =>
 popO (SemP PG (Op.unary UnOp.not v4)) fun v6 =>
 gopV (yV v6) false (fun k9 => k9 t2 h5) h5 fun v7 h8 =>
 gopV (yV v6) false (fun k12 => CallsH PG id_carracklaw11_few #[v7] h8 fun v13 h14 => k12 v13 h14) h8 fun v10 h11 =>
 gopV (yV v6) false (fun k17 => popO (SemP PG (Op.unary UnOp.not v10)) fun v18 => k17 v18 h11) h11 fun v15 h16 =>
 popO (pickV v6 (Value.bool true) v15) fun v19 =>
 condV v19
 (R (Value.bool true) h16)
 (CallsH PG id_store_New #[t0] h16 fun v20 h21 =>
 CallsH PG id_carrackref11_New #[t0] h21 fun v22 h23 =>
 popO (SemE PG h23 (binS BinOp.eql T_p_store_Store (.tmp 39) (.const (Value.pointer none)) v20 (Value.pointer none))) fun v24 =>
 condV v24
 (R (Value.bool false) h23)
 (LoopL [1, 2, 7, 8, 9] (fun n25 ρ h => carracklaw11_StoreKeeps_b26 R n25 (ρ 1) (ρ 2) (ρ 7) (ρ 8) (ρ 9) h) [t1, t2, v20, v22, (Value.int IntKind.i64 0)] h23)))
def carracklaw11_StoreKeeps.ann : Ann := { b := fun i => match i with  | _ => #[], ord := fun i => match i with  | _ => [], keep := fun i => match i with | 9 => [1, 2, 7, 8, 9] | 18 => [2, 7, 8, 10, 11, 12, 13, 14] | 27 => [2, 7, 8, 10, 11, 12, 13, 19] | 31 => [7, 10, 11, 12, 13, 20] | _ => [], n := 181 }
theorem carracklaw11_StoreKeeps.eq (t0 : Value) (t1 : Value) (t2 : Value) (h0 : PH) (R : Value → PH → Prop) : codeF PG carracklaw11_StoreKeeps.ann 200 (bodyOf Tryd.f6) (endH PG Tryd.f6 R) (fun t => (#[t0, t1, t2] : Array Value).getD t undef) h0 = carracklaw11_StoreKeeps t0 t1 t2 h0 R := by kernel_rfl
theorem carracklaw11_StoreKeeps.call {t0 : Value} {t1 : Value} {t2 : Value} {h0 : PH} {R : Value → PH → Prop} (H : carracklaw11_StoreKeeps t0 t1 t2 h0 R) : CallsH PG id_carracklaw11_StoreKeeps #[t0, t1, t2] h0 R :=
  callsF_by carracklaw11_StoreKeeps.ann 200 mix Tryd.func6 (by kernel_rfl) (by kernel_rfl) (by kernel_rfl) (by kernel_rfl) (by simp [Tryd.ntmps6]) (carracklaw11_StoreKeeps.eq t0 t1 t2 h0 R) H

end Go.Proofs.YtllopddcpkhfjaaDoor
