/- The texts of this claim, put together. -/
import Derived.Test.YtcoajnpchhmgjaaGreatDoorChFVC1
set_option linter.unusedSimpArgs false
set_option linter.unusedVariables false
set_option linter.unusedSectionVars false
set_option maxRecDepth 100000
namespace Go.Proofs.YtcoajnpchhmgjaaGreatDoor
open Go
def an0 (n : Nat) : Ann := { b := fun i => #[], ord := fun i => [], keep := fun i => [], n := n }
def an1 (k : Nat) (l : List Nat) (n : Nat) : Ann := { b := fun i => #[], ord := fun i => [], keep := fun i => if i = k then l else [], n := n }
def lit0 : Array UInt8 := ((((32 :: 32 :: 32 :: 32 :: 32 :: 32 :: 32 :: 32 :: 32 :: 32 :: 32 :: 32 :: 32 :: 32 :: 32 :: 32 :: 32 :: 32 :: 32 :: 32 :: 32 :: 32 :: 32 :: 32 :: 32 :: 32 :: 32 :: 32 :: 32 :: 32 :: 32 :: 32 :: 32 :: 32 :: 32 :: 32 :: 32 :: 32 :: 32 :: 32 :: 32 :: 32 :: 32 :: 32 :: 32 :: 32 :: 32 :: 32 :: 32 :: 32 :: 32 :: 32 :: 32 :: 32 :: 32 :: 32 :: 32 :: 32 :: 32 :: 32 :: 32 :: 32 :: 32 :: 32 :: [] : List UInt8).append) (32 :: 32 :: 32 :: 32 :: 32 :: 32 :: 32 :: 32 :: 32 :: 32 :: 32 :: 32 :: 32 :: 32 :: 32 :: 32 :: 32 :: 32 :: 32 :: 32 :: 32 :: 32 :: 32 :: 32 :: 32 :: 32 :: 32 :: 32 :: 32 :: 32 :: 32 :: 32 :: 32 :: 32 :: 32 :: 32 :: 32 :: 32 :: 32 :: 32 :: 32 :: 32 :: 32 :: 32 :: 32 :: 32 :: 32 :: 32 :: 32 :: 32 :: 32 :: 32 :: 32 :: 32 :: 32 :: 32 :: 32 :: 32 :: 32 :: 32 :: 32 :: 32 :: 32 :: 32 :: [] : List UInt8)).toArray)
def lit1 : Array UInt8 := ((((45 :: 45 :: 45 :: 45 :: 45 :: 45 :: 45 :: 45 :: 45 :: 45 :: 45 :: 45 :: 45 :: 45 :: 45 :: 45 :: 45 :: 45 :: 45 :: 45 :: 45 :: 45 :: 45 :: 45 :: 45 :: 45 :: 45 :: 45 :: 45 :: 45 :: 45 :: 45 :: 45 :: 45 :: 45 :: 45 :: 45 :: 45 :: 45 :: 45 :: 45 :: 45 :: 45 :: 45 :: 45 :: 45 :: 45 :: 45 :: 45 :: 45 :: 45 :: 45 :: 45 :: 45 :: 45 :: 45 :: 45 :: 45 :: 45 :: 45 :: 45 :: 45 :: 45 :: 45 :: [] : List UInt8).append) (45 :: 45 :: 45 :: 45 :: 45 :: 45 :: 45 :: 45 :: 45 :: 45 :: 45 :: 45 :: 45 :: 45 :: 45 :: 45 :: 45 :: 45 :: 45 :: 45 :: 45 :: 45 :: 45 :: 45 :: 45 :: 45 :: 45 :: 45 :: 45 :: 45 :: 45 :: 45 :: 45 :: 45 :: 45 :: 45 :: 45 :: 45 :: 45 :: 45 :: 45 :: 45 :: 45 :: 45 :: 45 :: 45 :: 45 :: 45 :: 45 :: 45 :: 45 :: 45 :: 45 :: 45 :: 45 :: 45 :: 45 :: 45 :: 45 :: 45 :: 45 :: 45 :: 45 :: 45 :: [] : List UInt8)).toArray)
def lit2 : Array UInt8 := ((((61 :: 61 :: 61 :: 61 :: 61 :: 61 :: 61 :: 61 :: 61 :: 61 :: 61 :: 61 :: 61 :: 61 :: 61 :: 61 :: 61 :: 61 :: 61 :: 61 :: 61 :: 61 :: 61 :: 61 :: 61 :: 61 :: 61 :: 61 :: 61 :: 61 :: 61 :: 61 :: 61 :: 61 :: 61 :: 61 :: 61 :: 61 :: 61 :: 61 :: 61 :: 61 :: 61 :: 61 :: 61 :: 61 :: 61 :: 61 :: 61 :: 61 :: 61 :: 61 :: 61 :: 61 :: 61 :: 61 :: 61 :: 61 :: 61 :: 61 :: 61 :: 61 :: 61 :: 61 :: [] : List UInt8).append) (61 :: 61 :: 61 :: 61 :: 61 :: 61 :: 61 :: 61 :: 61 :: 61 :: 61 :: 61 :: 61 :: 61 :: 61 :: 61 :: 61 :: 61 :: 61 :: 61 :: 61 :: 61 :: 61 :: 61 :: 61 :: 61 :: 61 :: 61 :: 61 :: 61 :: 61 :: 61 :: 61 :: 61 :: 61 :: 61 :: 61 :: 61 :: 61 :: 61 :: 61 :: 61 :: 61 :: 61 :: 61 :: 61 :: 61 :: 61 :: 61 :: 61 :: 61 :: 61 :: 61 :: 61 :: 61 :: 61 :: 61 :: 61 :: 61 :: 61 :: 61 :: 61 :: 61 :: 61 :: [] : List UInt8)).toArray)
def lit3 : Array UInt8 := ((((((0 :: 1 :: 2 :: 2 :: 3 :: 3 :: 3 :: 3 :: 4 :: 4 :: 4 :: 4 :: 4 :: 4 :: 4 :: 4 :: 5 :: 5 :: 5 :: 5 :: 5 :: 5 :: 5 :: 5 :: 5 :: 5 :: 5 :: 5 :: 5 :: 5 :: 5 :: 5 :: 6 :: 6 :: 6 :: 6 :: 6 :: 6 :: 6 :: 6 :: 6 :: 6 :: 6 :: 6 :: 6 :: 6 :: 6 :: 6 :: 6 :: 6 :: 6 :: 6 :: 6 :: 6 :: 6 :: 6 :: 6 :: 6 :: 6 :: 6 :: 6 :: 6 :: 6 :: 6 :: [] : List UInt8).append) (7 :: 7 :: 7 :: 7 :: 7 :: 7 :: 7 :: 7 :: 7 :: 7 :: 7 :: 7 :: 7 :: 7 :: 7 :: 7 :: 7 :: 7 :: 7 :: 7 :: 7 :: 7 :: 7 :: 7 :: 7 :: 7 :: 7 :: 7 :: 7 :: 7 :: 7 :: 7 :: 7 :: 7 :: 7 :: 7 :: 7 :: 7 :: 7 :: 7 :: 7 :: 7 :: 7 :: 7 :: 7 :: 7 :: 7 :: 7 :: 7 :: 7 :: 7 :: 7 :: 7 :: 7 :: 7 :: 7 :: 7 :: 7 :: 7 :: 7 :: 7 :: 7 :: 7 :: 7 :: [] : List UInt8)).append) (((8 :: 8 :: 8 :: 8 :: 8 :: 8 :: 8 :: 8 :: 8 :: 8 :: 8 :: 8 :: 8 :: 8 :: 8 :: 8 :: 8 :: 8 :: 8 :: 8 :: 8 :: 8 :: 8 :: 8 :: 8 :: 8 :: 8 :: 8 :: 8 :: 8 :: 8 :: 8 :: 8 :: 8 :: 8 :: 8 :: 8 :: 8 :: 8 :: 8 :: 8 :: 8 :: 8 :: 8 :: 8 :: 8 :: 8 :: 8 :: 8 :: 8 :: 8 :: 8 :: 8 :: 8 :: 8 :: 8 :: 8 :: 8 :: 8 :: 8 :: 8 :: 8 :: 8 :: 8 :: [] : List UInt8).append) (8 :: 8 :: 8 :: 8 :: 8 :: 8 :: 8 :: 8 :: 8 :: 8 :: 8 :: 8 :: 8 :: 8 :: 8 :: 8 :: 8 :: 8 :: 8 :: 8 :: 8 :: 8 :: 8 :: 8 :: 8 :: 8 :: 8 :: 8 :: 8 :: 8 :: 8 :: 8 :: 8 :: 8 :: 8 :: 8 :: 8 :: 8 :: 8 :: 8 :: 8 :: 8 :: 8 :: 8 :: 8 :: 8 :: 8 :: 8 :: 8 :: 8 :: 8 :: 8 :: 8 :: 8 :: 8 :: 8 :: 8 :: 8 :: 8 :: 8 :: 8 :: 8 :: 8 :: 8 :: [] : List UInt8))).toArray)
def carracklaw13_awake (h0 : PH) (R : Value → PH → Prop) : Prop :=
 popO (SemP PG (Instr.build T_2_uint64 #[(0, (Value.int IntKind.u64 5)), (1, (Value.int IntKind.u64 9))])) fun v1 =>
 popO (SemP PG (Instr.build T_2_uint64 #[(0, (Value.int IntKind.u64 1)), (1, (Value.int IntKind.u64 1))])) fun v2 =>
 CallsH PG id_carracklaw13_made #[v1, v2] h0 fun v3 h4 =>
 popO (SemE PG h4 (binS BinOp.eql T_p_carracklaw13_two (.tmp 18) (.const (Value.pointer none)) v3 (Value.pointer none))) fun v5 =>
 condV v5
 (R (Value.bool false) h4)
 (popO (SemP PG (nilS v3)) fun v6 =>
 popO (SemP PG (Instr.fieldAt T_carracklaw13_two v6 0)) fun v7 =>
 popO (SemP PG (Instr.indexAt T_2_p_chain_Chain v7 (Value.int IntKind.i64 0))) fun v8 =>
 popO (SemE PG h4 (Instr.loadAt T_p_chain_Chain v8)) fun v9 =>
 CallsH PG id_chain_Chain_Send #[v9, (Value.string { data := #[120] }), (Value.int IntKind.u64 20)] h4 fun v10 h11 =>
 popO (SemP PG (Instr.extract v10 0)) fun v12 =>
 popO (SemP PG (Instr.extract v10 1)) fun v13 =>
 ∀ r14, h11 r14 = none → bindH (PH.set h11 r14 (.cells (zcells PG T_api_Packet) T_api_Packet)) fun h15 =>
 SemH PG (storeS T_api_Packet (Value.pointer (some ⟨r14, 0, none⟩)) v12) h15 fun v16 h17 =>
 popO (SemP PG (nilS v3)) fun v18 =>
 popO (SemP PG (Instr.fieldAt T_carracklaw13_two v18 0)) fun v19 =>
 popO (SemP PG (Instr.indexAt T_2_p_chain_Chain v19 (Value.int IntKind.i64 0))) fun v20 =>
 popO (SemE PG h17 (Instr.loadAt T_p_chain_Chain v20)) fun v21 =>
 CallsH PG id_chain_Chain_Commit #[v21] h17 fun v22 h23 =>
 popO (SemP PG (Instr.extract v22 0)) fun v24 =>
 popO (SemP PG (Instr.extract v22 1)) fun v25 =>
 popO (SemP PG (Instr.build T_carrackref13_Act #[(0, (Value.int IntKind.i64 1)), (1, (Value.int IntKind.i64 1)), (2, v24)])) fun v26 =>
 CallsH PG id_carracklaw13_two_do #[v3, v26] h23 fun v27 h28 =>
 popO (SemP PG (Instr.extract v27 0)) fun v29 =>
 popO (SemP PG (Instr.extract v27 1)) fun v30 =>
 popO (SemP PG (Instr.extract v27 2)) fun v31 =>
 ∀ r32, h28 r32 = none → bindH (PH.set h28 r32 (.cells (zcells PG T_api_Packet) T_api_Packet)) fun h33 =>
 SemH PG (storeS T_api_Packet (Value.pointer (some ⟨r32, 0, none⟩)) v29) h33 fun v34 h35 =>
 popO (SemE PG h35 (Instr.loadAt T_api_Packet (Value.pointer (some ⟨r14, 0, none⟩)))) fun v36 =>
 popO (SemP PG (Instr.build T_carrackref13_Act #[(0, (Value.int IntKind.i64 2)), (1, (Value.int IntKind.i64 1)), (2, v24), (4, v36)])) fun v37 =>
 CallsH PG id_carracklaw13_two_do #[v3, v37] h35 fun v38 h39 =>
 popO (SemP PG (Instr.extract v38 0)) fun v40 =>
 popO (SemP PG (Instr.extract v38 1)) fun v41 =>
 popO (SemP PG (Instr.extract v38 2)) fun v42 =>
 ∀ r43, h39 r43 = none → bindH (PH.set h39 r43 (.cells (zcells PG T_api_Packet) T_api_Packet)) fun h44 =>
 SemH PG (storeS T_api_Packet (Value.pointer (some ⟨r43, 0, none⟩)) v40) h44 fun v45 h46 =>
 popO (SemE PG h46 (Instr.loadAt T_api_Packet (Value.pointer (some ⟨r14, 0, none⟩)))) fun v47 =>
 popO (SemP PG (Instr.build T_carrackref13_Act #[(0, (Value.int IntKind.i64 2)), (1, (Value.int IntKind.i64 1)), (2, v24), (4, v47)])) fun v48 =>
 CallsH PG id_carracklaw13_two_do #[v3, v48] h46 fun v49 h50 =>
 popO (SemP PG (Instr.extract v49 0)) fun v51 =>
 popO (SemP PG (Instr.extract v49 1)) fun v52 =>
 popO (SemP PG (Instr.extract v49 2)) fun v53 =>
 ∀ r54, h50 r54 = none → bindH (PH.set h50 r54 (.cells (zcells PG T_api_Packet) T_api_Packet)) fun h55 =>
 SemH PG (storeS T_api_Packet (Value.pointer (some ⟨r54, 0, none⟩)) v51) h55 fun v56 h57 =>
 popO (SemE PG h57 (binS BinOp.eql T_api_Errno (.tmp 64) (.const (Value.int IntKind.i64 0)) v13 (Value.int IntKind.i64 0))) fun v58 =>
 gopV (yV v58) true (fun k61 => popO (SemP PG (Instr.fieldAt T_api_Packet (Value.pointer (some ⟨r14, 0, none⟩)) 1)) fun v62 => k61 v62 h57) h57 fun v59 h60 =>
 gopV (yV v58) true (fun k65 => popO (SemE PG h60 (Instr.loadAt T_uint64 v59)) fun v66 => k65 v66 h60) h60 fun v63 h64 =>
 gopV (yV v58) true (fun k69 => popO (SemE PG h64 (binS BinOp.eql T_uint64 (.tmp 68) (.const (Value.int IntKind.u64 1)) v63 (Value.int IntKind.u64 1))) fun v70 => k69 v70 h64) h64 fun v67 h68 =>
 popO (pickV v58 v67 (Value.bool false)) fun v71 =>
 gopV (yV v71) true (fun k74 => k74 v25 h68) h68 fun v72 h73 =>
 gopV (yV v71) true (fun k77 => popO (SemE PG h73 (binS BinOp.eql T_api_Errno (.tmp 72) (.const (Value.int IntKind.i64 0)) v72 (Value.int IntKind.i64 0))) fun v78 => k77 v78 h73) h73 fun v75 h76 =>
 popO (pickV v71 v75 (Value.bool false)) fun v79 =>
 gopV (yV v79) true (fun k82 => k82 v24 h76) h76 fun v80 h81 =>
 gopV (yV v79) true (fun k85 => popO (SemE PG h81 (binS BinOp.eql T_uint64 (.tmp 76) (.const (Value.int IntKind.u64 6)) v80 (Value.int IntKind.u64 6))) fun v86 => k85 v86 h81) h81 fun v83 h84 =>
 popO (pickV v79 v83 (Value.bool false)) fun v87 =>
 gopV (yV v87) true (fun k90 => k90 v31 h84) h84 fun v88 h89 =>
 gopV (yV v87) true (fun k93 => popO (SemE PG h89 (binS BinOp.eql T_int (.tmp 80) (.const (Value.int IntKind.i64 0)) v88 (Value.int IntKind.i64 0))) fun v94 => k93 v94 h89) h89 fun v91 h92 =>
 popO (pickV v87 v91 (Value.bool false)) fun v95 =>
 gopV (yV v95) true (fun k98 => k98 v42 h92) h92 fun v96 h97 =>
 gopV (yV v95) true (fun k101 => popO (SemE PG h97 (binS BinOp.eql T_int (.tmp 84) (.const (Value.int IntKind.i64 0)) v96 (Value.int IntKind.i64 0))) fun v102 => k101 v102 h97) h97 fun v99 h100 =>
 popO (pickV v95 v99 (Value.bool false)) fun v103 =>
 gopV (yV v103) true (fun k106 => k106 v53 h100) h100 fun v104 h105 =>
 gopV (yV v103) true (fun k109 => popO (SemE PG h105 (binS BinOp.eql T_int (.tmp 88) (.const (Value.int IntKind.i64 4)) v104 (Value.int IntKind.i64 4))) fun v110 => k109 v110 h105) h105 fun v107 h108 =>
 popO (pickV v103 v107 (Value.bool false)) fun v111 =>
 R v111 h108)
theorem carracklaw13_awake.call {h0 : PH} {R : Value → PH → Prop} (H : carracklaw13_awake  h0 R) : CallsH PG id_carracklaw13_awake #[] h0 R :=
  callsF_by (an0 91) 200 mix Tryz.func9 (by kernel_rfl) (by kernel_rfl) (by kernel_rfl) (by kernel_rfl) (by simp [Tryz.ntmps9]) (by kernel_rfl) H
def carracklaw13_made_b15 (R : Value → PH → Prop) (n14 : List Value → PH → Prop) (t2 : Value) (t3 : Value) (t5 : Value) (t6 : Value) (h0 : PH) : Prop :=
 popO (SemP PG (binOp BinOp.lss T_int t6 (Value.int IntKind.i64 2))) fun v16 =>
 condV v16
 (popO (SemP PG (Instr.indexAt T_2_uint64 t2 t6)) fun v17 =>
 popO (SemE PG h0 (Instr.loadAt T_uint64 v17)) fun v18 =>
 popO (SemP PG (Instr.indexAt T_2_uint64 t3 t6)) fun v19 =>
 popO (SemE PG h0 (Instr.loadAt T_uint64 v19)) fun v20 =>
 CallsH PG id_chain_New #[t6, v18, v20] h0 fun v21 h22 =>
 (popO (SemP PG (Instr.extract v21 0)) fun v23 =>
 popO (SemP PG (Instr.extract v21 1)) fun v24 =>
 popO (SemE PG h22 (binS BinOp.neq T_api_Errno (.tmp 30) (.const (Value.int IntKind.i64 0)) v24 (Value.int IntKind.i64 0))) fun v25 =>
 gopV (yV v25) false (fun k28 => k28 v23 h22) h22 fun v26 h27 =>
 gopV (yV v25) false (fun k31 => popO (SemE PG h27 (binS BinOp.eql T_p_chain_Chain (.tmp 33) (.const (Value.pointer none)) v26 (Value.pointer none))) fun v32 => k31 v32 h27) h27 fun v29 h30 =>
 popO (pickV v25 (Value.bool true) v29) fun v33 =>
 condV v33
 (R (Value.pointer none) h30)
 (popO (SemP PG (nilS t5)) fun v34 =>
 popO (SemP PG (Instr.fieldAt T_carracklaw13_two v34 0)) fun v35 =>
 popO (SemP PG (Instr.indexAt T_2_p_chain_Chain v35 t6)) fun v36 =>
 SemH PG (storeS T_p_chain_Chain v36 v23) h30 fun v37 h38 =>
 popO (SemP PG (binOp BinOp.add T_int t6 (Value.int IntKind.i64 1))) fun v39 =>
 n14 [t2, t3, t5, v39] h38)))
 (R t5 h0)
def carracklaw13_made (t0 : Value) (t1 : Value) (h0 : PH) (R : Value → PH → Prop) : Prop :=
 ∀ r1, h0 r1 = none → bindH (PH.set h0 r1 (.cells (Value.cells t0) T_2_uint64)) fun h2 =>
 ∀ r3, h2 r3 = none → bindH (PH.set h2 r3 (.cells (Value.cells t1) T_2_uint64)) fun h4 =>
 popO (SemE PG h4 (Instr.loadAt T_2_uint64 (Value.pointer (some ⟨r1, 0, none⟩)))) fun v5 =>
 popO (SemE PG h4 (Instr.loadAt T_2_uint64 (Value.pointer (some ⟨r3, 0, none⟩)))) fun v6 =>
 CallsH PG id_carrackref01_New #[] h4 fun v7 h8 =>
 SemE PG h8 (Instr.loadAt T_2_uint64 (Value.pointer (some ⟨r3, 0, none⟩))) = some v6 ∧ SemE PG h8 (Instr.loadAt T_2_uint64 (Value.pointer (some ⟨r1, 0, none⟩))) = some v5 ∧ (CallsH PG id_carrackref13_Both #[v7, v5, v6] h8 fun v9 h10 =>
 (popO (SemP PG (Instr.build T_carracklaw13_two #[(1, v9)])) fun v11 =>
 ∀ r12, h10 r12 = none → bindH (PH.set h10 r12 (.cells (Value.cells v11) T_carracklaw13_two)) fun h13 =>
 LoopL [2, 3, 5, 6] (fun n14 ρ h => carracklaw13_made_b15 R n14 (ρ 2) (ρ 3) (ρ 5) (ρ 6) h) [(Value.pointer (some ⟨r1, 0, none⟩)), (Value.pointer (some ⟨r3, 0, none⟩)), (Value.pointer (some ⟨r12, 0, none⟩)), (Value.int IntKind.i64 0)] h13))
def carracklaw13_made.ann : Ann := { b := fun i => match i with | 1 => #[0, 0, 0, 7, 15, 31, 63] | 5 => #[0, 0, 2, 6, 0, 16, 48, 127, 255, 511, 511, 1023, 4095] | _ => #[], ord := fun i => match i with | 1 => [1, 2, 0, 3, 4, 5, 6] | 5 => [0, 1, 2, 3, 4, 5, 6, 7, 8, 9, 10, 11, 12] | _ => [], keep := fun i => match i with | 3 => [2, 3, 5, 6] | _ => [], n := 43 }
theorem carracklaw13_made.call {t0 : Value} {t1 : Value} {h0 : PH} {R : Value → PH → Prop} (H : carracklaw13_made t0 t1 h0 R) : CallsH PG id_carracklaw13_made #[t0, t1] h0 R :=
  callsF_by carracklaw13_made.ann 200 mix Tryz.func11 (by kernel_rfl) (by kernel_rfl) (by kernel_rfl) (by kernel_rfl) (by simp [Tryz.ntmps11]) (by kernel_rfl) H
def chain_New (t0 : Value) (t1 : Value) (t2 : Value) (h0 : PH) (R : Value → PH → Prop) : Prop :=
 popO (SemP PG (binOp BinOp.lss T_int t0 (Value.int IntKind.i64 0))) fun v1 =>
 gopV (yV v1) false (fun k4 => k4 t0 h0) h0 fun v2 h3 =>
 gopV (yV v1) false (fun k7 => popO (SemP PG (binOp BinOp.gtr T_int v2 (Value.int IntKind.i64 1))) fun v8 => k7 v8 h3) h3 fun v5 h6 =>
 popO (pickV v1 (Value.bool true) v5) fun v9 =>
 gopV (yV v9) false (fun k12 => k12 t2 h6) h6 fun v10 h11 =>
 gopV (yV v9) false (fun k15 => popO (SemE PG h11 (binS BinOp.eql T_uint64 (.tmp 15) (.const (Value.int IntKind.u64 0)) v10 (Value.int IntKind.u64 0))) fun v16 => k15 v16 h11) h11 fun v13 h14 =>
 popO (pickV v9 (Value.bool true) v13) fun v17 =>
 condV v17
 (R (Value.tuple #[(Value.pointer none), (Value.int IntKind.i64 1)]) h14)
 (CallsH PG id_store_New #[t1] h14 fun v18 h19 =>
 (CallsH PG id_client_New #[] h19 fun v20 h21 =>
 (popO (SemA PG (Instr.makeSlice T_sl_sl_api_Note (Value.int IntKind.i64 1) (Value.int IntKind.i64 1))) fun x23 => ∀ r22, h21 r22 = none → popO (SemP PG (x23.2 r22)) fun v24 => bindH (PH.set h21 r22 x23.1) fun h25 =>
 popO (SemA PG (Instr.makeMap T_map_string_string none)) fun x27 => ∀ r26, h25 r26 = none → popO (SemP PG (x27.2 r26)) fun v28 => bindH (PH.set h25 r26 x27.1) fun h29 =>
 popO (SemP PG (Instr.build T_chain_ledger #[(0, v18), (1, t1), (2, v24), (4, v28)])) fun v30 =>
 popO (SemP PG (Instr.build T_chain_Chain #[(0, v30), (1, t0), (2, v20), (3, t2)])) fun v31 =>
 ∀ r32, h29 r32 = none → bindH (PH.set h29 r32 (.cells (Value.cells v31) T_chain_Chain)) fun h33 =>
 R (Value.tuple #[(Value.pointer (some ⟨r32, 0, none⟩)), (Value.int IntKind.i64 0)]) h33)))
def chain_New.ann : Ann := { b := fun i => match i with | 3 => #[0, 1, 0, 0, 0, 31, 0, 3, 0, 511, 1023, 2047, 4095] | _ => #[], ord := fun i => match i with | 3 => [0, 2, 6, 8, 1, 7, 3, 4, 5, 9, 10, 11, 12] | _ => [], keep := fun i => match i with  | _ => [], n := 29 }
theorem chain_New.call {t0 : Value} {t1 : Value} {t2 : Value} {h0 : PH} {R : Value → PH → Prop} (H : chain_New t0 t1 t2 h0 R) : CallsH PG id_chain_New #[t0, t1, t2] h0 R :=
  callsF_by chain_New.ann 200 mix Tryz.func25 (by kernel_rfl) (by kernel_rfl) (by kernel_rfl) (by kernel_rfl) (by simp [Tryz.ntmps25]) (by kernel_rfl) H
def store_New (t0 : Value) (h0 : PH) (R : Value → PH → Prop) : Prop :=
 popO (SemA PG (Instr.makeMap T_map_string_string none)) fun x2 => ∀ r1, h0 r1 = none → popO (SemP PG (x2.2 r1)) fun v3 => bindH (PH.set h0 r1 x2.1) fun h4 =>
 CallsH PG id_merkle_Root #[(Value.slice none 0 0)] h4 fun v5 h6 =>
 popO (SemP PG (Instr.build T_store_block #[(1, v5)])) fun v7 =>
 popO (SemA PG (Instr.buildSlice T_sl_store_block 1 #[(0, v7)])) fun x9 => ∀ r8, h6 r8 = none → popO (SemP PG (x9.2 r8)) fun v10 => bindH (PH.set h6 r8 x9.1) fun h11 =>
 popO (SemP PG (Instr.build T_store_Store #[(0, v3), (1, v10), (2, t0)])) fun v12 =>
 ∀ r13, h11 r13 = none → bindH (PH.set h11 r13 (.cells (Value.cells v12) T_store_Store)) fun h14 =>
 R (Value.pointer (some ⟨r13, 0, none⟩)) h14
theorem store_New.call {t0 : Value} {h0 : PH} {R : Value → PH → Prop} (H : store_New t0 h0 R) : CallsH PG id_store_New #[t0] h0 R :=
  callsF_by (an0 10) 200 mix Tryz.func56 (by kernel_rfl) (by kernel_rfl) (by kernel_rfl) (by kernel_rfl) (by simp [Tryz.ntmps56]) (by kernel_rfl) H
def merkle_Root (t0 : Value) (h0 : PH) (R : Value → PH → Prop) : Prop :=
 popO (SemP PG (Builtin.len_ #[T_sl_api_Pair] T_int #[t0])) fun v1 =>
 popO (SemE PG h0 (binS BinOp.eql T_int (.tmp 4) (.const (Value.int IntKind.i64 0)) v1 (Value.int IntKind.i64 0))) fun v2 =>
 condV v2
 (CallsH PG id_merkle_Top #[(Value.int IntKind.i64 0), (Value.string { data := #[] })] h0 fun v3 h4 =>
 R v3 h4)
 (popO (SemP PG (Builtin.len_ #[T_sl_api_Pair] T_int #[t0])) fun v5 =>
 CallsH PG id_merkle_digest #[t0] h0 fun v6 h7 =>
 CallsH PG id_merkle_Top #[v5, v6] h7 fun v8 h9 =>
 R v8 h9)
theorem merkle_Root.call {t0 : Value} {h0 : PH} {R : Value → PH → Prop} (H : merkle_Root t0 h0 R) : CallsH PG id_merkle_Root #[t0] h0 R :=
  callsF_by (an0 12) 200 mix Tryz.func55 (by kernel_rfl) (by kernel_rfl) (by kernel_rfl) (by kernel_rfl) (by simp [Tryz.ntmps55]) (by kernel_rfl) H
def merkle_Top_b4 (R : Value → PH → Prop) (n3 : List Value → PH → Prop) (t1 : Value) (t5 : Value) (t6 : Value) (t11 : Value) (h0 : PH) : Prop :=
 popO (SemP PG (binOp BinOp.lss T_int t11 (Value.int IntKind.i64 8))) fun v5 =>
 condV v5
 (popO (SemP PG (binOp BinOp.mul T_int (Value.int IntKind.i64 8) t11)) fun v6 =>
 popO (SemP PG (binOp BinOp.sub T_int (Value.int IntKind.i64 56) v6)) fun v7 =>
 popO (SemP PG (binOp BinOp.shr T_uint64 t5 v7)) fun v8 =>
 popO (SemP PG (binOp BinOp.and T_uint64 v8 (Value.int IntKind.u64 255))) fun v9 =>
 popO (SemP PG (convert T_uint64 T_int v9)) fun v10 =>
 CallsH PG id_merkle_one #[v10] h0 fun v11 h12 =>
 popO (SemP PG (binOp BinOp.add T_string t6 v11)) fun v13 =>
 popO (SemP PG (binOp BinOp.add T_int t11 (Value.int IntKind.i64 1))) fun v14 =>
 n3 [t1, t5, v13, v14] h12)
 (popO (SemA PG (Instr.buildSlice T_sl_string 3 #[(0, (Value.string { data := #[2] })), (1, t6), (2, t1)])) fun x16 => ∀ r15, h0 r15 = none → popO (SemP PG (x16.2 r15)) fun v17 => bindH (PH.set h0 r15 x16.1) fun h18 =>
 CallsH PG id_sha_Sum #[v17] h18 fun v19 h20 =>
 R v19 h20)
def merkle_Top (t0 : Value) (t1 : Value) (h0 : PH) (R : Value → PH → Prop) : Prop :=
 popO (SemP PG (Builtin.max_ #[T_int, T_int] T_int #[(Value.int IntKind.i64 0), t0])) fun v1 =>
 popO (SemP PG (convert T_int T_uint64 v1)) fun v2 =>
 LoopL [1, 5, 6, 11] (fun n3 ρ h => merkle_Top_b4 R n3 (ρ 1) (ρ 5) (ρ 6) (ρ 11) h) [t1, v2, (Value.string { data := #[] }), (Value.int IntKind.i64 0)] h0
theorem merkle_Top.call {t0 : Value} {t1 : Value} {h0 : PH} {R : Value → PH → Prop} (H : merkle_Top t0 t1 h0 R) : CallsH PG id_merkle_Top #[t0, t1] h0 R :=
  callsF_by (an1 4 [1, 5, 6, 11] 29) 200 mix Tryz.func128 (by kernel_rfl) (by kernel_rfl) (by kernel_rfl) (by kernel_rfl) (by simp [Tryz.ntmps128]) (by kernel_rfl) H
def merkle_one (t0 : Value) (h0 : PH) (R : Value → PH → Prop) : Prop :=
 popO (SemP PG (convert T_int T_uint8 t0)) fun v1 =>
 popO (SemA PG (Instr.buildSlice T_sl_uint8 1 #[(0, v1)])) fun x3 => ∀ r2, h0 r2 = none → popO (SemP PG (x3.2 r2)) fun v4 => bindH (PH.set h0 r2 x3.1) fun h5 =>
 popO (SemE PG h5 (convert T_sl_uint8 T_string v4)) fun v6 =>
 R v6 h5
theorem merkle_one.call {t0 : Value} {h0 : PH} {R : Value → PH → Prop} (H : merkle_one t0 h0 R) : CallsH PG id_merkle_one #[t0] h0 R :=
  callsF_by (an0 7) 200 mix Tryz.func180 (by kernel_rfl) (by kernel_rfl) (by kernel_rfl) (by kernel_rfl) (by simp [Tryz.ntmps180]) (by kernel_rfl) H
def sha_Sum_b5 (R : Value → PH → Prop) (n4 : List Value → PH → Prop) (t3 : Value) (t7 : Value) (t8 : Value) (t9 : Value) (h0 : PH) : Prop :=
 popO (SemP PG (binOp BinOp.lss T_int t9 t8)) fun v6 =>
 condV v6
 (popO (SemP PG (Instr.indexAt T_sl_string t7 t9)) fun v7 =>
 popO (SemE PG h0 (Instr.loadAt T_string v7)) fun v8 =>
 CallsH PG id_sha_Hash_Write #[t3, v8] h0 fun v9 h10 =>
 popO (SemP PG (binOp BinOp.add T_int t9 (Value.int IntKind.i64 1))) fun v11 =>
 n4 [t3, t7, t8, v11] h10)
 (CallsH PG id_sha_Hash_Sum #[t3] h0 fun v12 h13 =>
 R v12 h13)
def sha_Sum (t0 : Value) (h0 : PH) (R : Value → PH → Prop) : Prop :=
 CallsH PG id_sha_New #[] h0 fun v1 h2 =>
 popO (SemP PG (Builtin.len_ #[T_sl_string] T_int #[t0])) fun v3 =>
 LoopL [3, 7, 8, 9] (fun n4 ρ h => sha_Sum_b5 R n4 (ρ 3) (ρ 7) (ρ 8) (ρ 9) h) [v1, t0, v3, (Value.int IntKind.i64 0)] h2
theorem sha_Sum.call {t0 : Value} {h0 : PH} {R : Value → PH → Prop} (H : sha_Sum t0 h0 R) : CallsH PG id_sha_Sum #[t0] h0 R :=
  callsF_by (an1 3 [3, 7, 8, 9] 19) 200 mix Tryz.func181 (by kernel_rfl) (by kernel_rfl) (by kernel_rfl) (by kernel_rfl) (by simp [Tryz.ntmps181]) (by kernel_rfl) H
def sha_New (h0 : PH) (R : Value → PH → Prop) : Prop :=
 CallsH PG id_sha_begin #[] h0 fun v1 h2 =>
 popO (SemP PG (Instr.build T_sha_Hash #[(0, v1)])) fun v3 =>
 ∀ r4, h2 r4 = none → bindH (PH.set h2 r4 (.cells (Value.cells v3) T_sha_Hash)) fun h5 =>
 R (Value.pointer (some ⟨r4, 0, none⟩)) h5
theorem sha_New.call {h0 : PH} {R : Value → PH → Prop} (H : sha_New  h0 R) : CallsH PG id_sha_New #[] h0 R :=
  callsF_by (an0 4) 200 mix Tryz.func212 (by kernel_rfl) (by kernel_rfl) (by kernel_rfl) (by kernel_rfl) (by simp [Tryz.ntmps212]) (by kernel_rfl) H
def sha_begin (h0 : PH) (R : Value → PH → Prop) : Prop :=
 ∀ r1, h0 r1 = none → bindH (PH.set h0 r1 (.cells (zcells PG T_sha_state) T_sha_state)) fun h2 =>
 popO (SemP PG (Instr.build T_8_uint32 #[(0, (Value.int IntKind.u32 1779033703)), (1, (Value.int IntKind.u32 3144134277)), (2, (Value.int IntKind.u32 1013904242)), (3, (Value.int IntKind.u32 2773480762)), (4, (Value.int IntKind.u32 1359893119)), (5, (Value.int IntKind.u32 2600822924)), (6, (Value.int IntKind.u32 528734635)), (7, (Value.int IntKind.u32 1541459225))])) fun v3 =>
 popO (SemP PG (Instr.build T_sha_state #[(0, v3)])) fun v4 =>
 SemH PG (storeS T_sha_state (Value.pointer (some ⟨r1, 0, none⟩)) v4) h2 fun v5 h6 =>
 popO (SemE PG h6 (Instr.loadAt T_sha_state (Value.pointer (some ⟨r1, 0, none⟩)))) fun v7 =>
 R v7 h6
theorem sha_begin.call {h0 : PH} {R : Value → PH → Prop} (H : sha_begin  h0 R) : CallsH PG id_sha_begin #[] h0 R :=
  callsF_by (an0 3) 200 mix Tryz.func230 (by kernel_rfl) (by kernel_rfl) (by kernel_rfl) (by kernel_rfl) (by simp [Tryz.ntmps230]) (by kernel_rfl) H
def sha_Hash_Write_b21 (R : Value → PH → Prop) (n20 : List Value → PH → Prop) (t0 : Value) (h0 : PH) : Prop :=
 popO (SemP PG (nilS t0)) fun v22 =>
 popO (SemP PG (Instr.fieldAt T_sha_Hash v22 1)) fun v23 =>
 popO (SemE PG h0 (Instr.loadAt T_string v23)) fun v24 =>
 popO (SemP PG (Builtin.len_ #[T_string] T_int #[v24])) fun v25 =>
 popO (SemP PG (binOp BinOp.geq T_int v25 (Value.int IntKind.i64 64))) fun v26 =>
 condV v26
 (popO (SemP PG (nilS t0)) fun v27 =>
 popO (SemP PG (Instr.fieldAt T_sha_Hash v27 0)) fun v28 =>
 popO (SemP PG (nilS t0)) fun v29 =>
 popO (SemP PG (Instr.fieldAt T_sha_Hash v29 1)) fun v30 =>
 popO (SemE PG h0 (Instr.loadAt T_string v30)) fun v31 =>
 popO (SemP PG (Instr.sliceAt T_string v31 none (some (Value.int IntKind.i64 64)) none)) fun v32 =>
 CallsH PG id_sha_state_mix #[v28, v32] h0 fun v33 h34 =>
 (popO (SemP PG (nilS t0)) fun v35 =>
 popO (SemP PG (Instr.fieldAt T_sha_Hash v35 1)) fun v36 =>
 popO (SemE PG h34 (Instr.loadAt T_string v36)) fun v37 =>
 popO (SemP PG (Instr.sliceAt T_string v37 (some (Value.int IntKind.i64 64)) none none)) fun v38 =>
 popO (SemP PG (nilS t0)) fun v39 =>
 popO (SemP PG (Instr.fieldAt T_sha_Hash v39 1)) fun v40 =>
 SemH PG (storeS T_string v40 v38) h34 fun v41 h42 =>
 n20 [t0] h42))
 (R (Value.tuple #[]) h0)
def sha_Hash_Write (t0 : Value) (t1 : Value) (h0 : PH) (R : Value → PH → Prop) : Prop :=
 popO (SemP PG (nilS t0)) fun v1 =>
 popO (SemP PG (Instr.fieldAt T_sha_Hash v1 2)) fun v2 =>
 popO (SemE PG h0 (Instr.loadAt T_int v2)) fun v3 =>
 popO (SemP PG (Builtin.len_ #[T_string] T_int #[t1])) fun v4 =>
 popO (SemP PG (binOp BinOp.add T_int v3 v4)) fun v5 =>
 popO (SemP PG (nilS t0)) fun v6 =>
 popO (SemP PG (Instr.fieldAt T_sha_Hash v6 2)) fun v7 =>
 SemH PG (storeS T_int v7 v5) h0 fun v8 h9 =>
 popO (SemP PG (nilS t0)) fun v10 =>
 popO (SemP PG (Instr.fieldAt T_sha_Hash v10 1)) fun v11 =>
 popO (SemE PG h9 (Instr.loadAt T_string v11)) fun v12 =>
 popO (SemP PG (binOp BinOp.add T_string v12 t1)) fun v13 =>
 CallsH PG id_strings_Clone #[v13] h9 fun v14 h15 =>
 popO (SemP PG (nilS t0)) fun v16 =>
 popO (SemP PG (Instr.fieldAt T_sha_Hash v16 1)) fun v17 =>
 SemH PG (storeS T_string v17 v14) h15 fun v18 h19 =>
 LoopL [0] (fun n20 ρ h => sha_Hash_Write_b21 R n20 (ρ 0) h) [t0] h19
def sha_Hash_Write.ann : Ann := { b := fun i => match i with | 3 => #[0, 1, 3, 0, 8, 24, 56, 120, 255] | _ => #[], ord := fun i => match i with | 3 => [0, 1, 2, 3, 4, 5, 6, 7, 8] | _ => [], keep := fun i => match i with | 2 => [0] | _ => [], n := 46 }
theorem sha_Hash_Write.call {t0 : Value} {t1 : Value} {h0 : PH} {R : Value → PH → Prop} (H : sha_Hash_Write t0 t1 h0 R) : CallsH PG id_sha_Hash_Write #[t0, t1] h0 R :=
  callsF_by sha_Hash_Write.ann 200 mix Tryz.func213 (by kernel_rfl) (by kernel_rfl) (by kernel_rfl) (by kernel_rfl) (by simp [Tryz.ntmps213]) (by kernel_rfl) H
def strings_Clone (t0 : Value) (h0 : PH) (R : Value → PH → Prop) : Prop :=
 CallsH PG id_internal_stringslite_Clone #[t0] h0 fun v1 h2 =>
 R v1 h2
theorem strings_Clone.call {t0 : Value} {h0 : PH} {R : Value → PH → Prop} (H : strings_Clone t0 h0 R) : CallsH PG id_strings_Clone #[t0] h0 R :=
  callsF_by (an0 5) 200 mix Tryz.func231 (by kernel_rfl) (by kernel_rfl) (by kernel_rfl) (by kernel_rfl) (by simp [Tryz.ntmps231]) (by kernel_rfl) H
def internal_stringslite_Clone (t0 : Value) (h0 : PH) (R : Value → PH → Prop) : Prop :=
 popO (SemP PG (Builtin.len_ #[T_string] T_int #[t0])) fun v1 =>
 popO (SemE PG h0 (binS BinOp.eql T_int (.tmp 5) (.const (Value.int IntKind.i64 0)) v1 (Value.int IntKind.i64 0))) fun v2 =>
 condV v2
 (R (Value.string { data := #[] }) h0)
 (popO (SemP PG (Builtin.len_ #[T_string] T_int #[t0])) fun v3 =>
 popO (SemA PG (Instr.makeSlice T_sl_uint8 v3 v3)) fun x5 => ∀ r4, h0 r4 = none → popO (SemP PG (x5.2 r4)) fun v6 => bindH (PH.set h0 r4 x5.1) fun h7 =>
 SemH PG (Builtin.copy_ #[T_sl_uint8, T_string] T_int #[v6, t0]) h7 fun v8 h9 =>
 popO (SemP PG (Instr.indexAt T_sl_uint8 v6 (Value.int IntKind.i64 0))) fun v10 =>
 popO (SemP PG (Builtin.len_ #[T_sl_uint8] T_int #[v6])) fun v11 =>
 SemH PG (Builtin.unsafeString_ #[T_p_uint8, T_int] T_string #[v10, v11]) h9 fun v12 h13 =>
 R v12 h13)
theorem internal_stringslite_Clone.call {t0 : Value} {h0 : PH} {R : Value → PH → Prop} (H : internal_stringslite_Clone t0 h0 R) : CallsH PG id_internal_stringslite_Clone #[t0] h0 R :=
  callsF_by (an0 18) 200 mix Tryz.func240 (by kernel_rfl) (by kernel_rfl) (by kernel_rfl) (by kernel_rfl) (by simp [Tryz.ntmps240]) (by kernel_rfl) H
def sha_state_mix_b85 (R : Value → PH → Prop) (n84 : List Value → PH → Prop) (t0 : Value) (t5 : Value) (t92 : Value) (h0 : PH) : Prop :=
 popO (SemP PG (binOp BinOp.lss T_int t92 (Value.int IntKind.i64 8))) fun v86 =>
 condV v86
 (popO (SemP PG (nilS t0)) fun v87 =>
 popO (SemP PG (Instr.fieldAt T_sha_state v87 0)) fun v88 =>
 popO (SemP PG (Instr.indexAt T_8_uint32 v88 t92)) fun v89 =>
 popO (SemE PG h0 (Instr.loadAt T_uint32 v89)) fun v90 =>
 popO (SemP PG (Instr.indexAt T_8_uint32 t5 t92)) fun v91 =>
 popO (SemE PG h0 (Instr.loadAt T_uint32 v91)) fun v92 =>
 popO (SemP PG (binOp BinOp.add T_uint32 v90 v92)) fun v93 =>
 popO (SemP PG (nilS t0)) fun v94 =>
 popO (SemP PG (Instr.fieldAt T_sha_state v94 0)) fun v95 =>
 popO (SemP PG (Instr.indexAt T_8_uint32 v95 t92)) fun v96 =>
 SemH PG (storeS T_uint32 v96 v93) h0 fun v97 h98 =>
 (popO (SemP PG (binOp BinOp.add T_int t92 (Value.int IntKind.i64 1))) fun v99 =>
 n84 [t0, t5, v99] h98))
 (R (Value.tuple #[]) h0)
def sha_state_mix_b15 (R : Value → PH → Prop) (n14 : List Value → PH → Prop) (t0 : Value) (t4 : Value) (t5 : Value) (t18 : Value) (h0 : PH) : Prop :=
 popO (SemP PG (binOp BinOp.lss T_int t18 (Value.int IntKind.i64 64))) fun v16 =>
 condV v16
 (popO (SemP PG (Instr.indexAt T_8_uint32 t5 (Value.int IntKind.i64 0))) fun v17 =>
 popO (SemE PG h0 (Instr.loadAt T_uint32 v17)) fun v18 =>
 popO (SemP PG (Instr.indexAt T_8_uint32 t5 (Value.int IntKind.i64 4))) fun v19 =>
 popO (SemE PG h0 (Instr.loadAt T_uint32 v19)) fun v20 =>
 popO (SemP PG (Instr.indexAt T_8_uint32 t5 (Value.int IntKind.i64 7))) fun v21 =>
 popO (SemE PG h0 (Instr.loadAt T_uint32 v21)) fun v22 =>
 popO (SemP PG (Instr.indexAt T_8_uint32 t5 (Value.int IntKind.i64 5))) fun v23 =>
 popO (SemE PG h0 (Instr.loadAt T_uint32 v23)) fun v24 =>
 popO (SemP PG (binOp BinOp.and T_uint32 v20 v24)) fun v25 =>
 popO (SemP PG (Op.unary UnOp.xor v20)) fun v26 =>
 popO (SemP PG (Instr.indexAt T_8_uint32 t5 (Value.int IntKind.i64 6))) fun v27 =>
 popO (SemE PG h0 (Instr.loadAt T_uint32 v27)) fun v28 =>
 popO (SemP PG (binOp BinOp.and T_uint32 v26 v28)) fun v29 =>
 popO (SemP PG (binOp BinOp.xor T_uint32 v25 v29)) fun v30 =>
 popO (SemP PG (Instr.indexAt T_64_uint32 (Value.pointer (some ⟨0, 0, none⟩)) t18)) fun v31 =>
 popO (SemE PG h0 (Instr.loadAt T_uint32 v31)) fun v32 =>
 popO (SemP PG (Instr.indexAt T_64_uint32 t4 t18)) fun v33 =>
 popO (SemE PG h0 (Instr.loadAt T_uint32 v33)) fun v34 =>
 CallsH PG id_sha_turn #[v20, (Value.int IntKind.i64 6)] h0 fun v35 h36 =>
 SemE PG h36 (Instr.loadAt T_uint32 v33) = some v34 ∧ SemE PG h36 (Instr.loadAt T_uint32 v31) = some v32 ∧ SemE PG h36 (Instr.loadAt T_uint32 v27) = some v28 ∧ SemE PG h36 (Instr.loadAt T_uint32 v23) = some v24 ∧ SemE PG h36 (Instr.loadAt T_uint32 v21) = some v22 ∧ (CallsH PG id_sha_turn #[v20, (Value.int IntKind.i64 11)] h36 fun v37 h38 =>
 SemE PG h38 (Instr.loadAt T_uint32 v33) = some v34 ∧ SemE PG h38 (Instr.loadAt T_uint32 v31) = some v32 ∧ SemE PG h38 (Instr.loadAt T_uint32 v27) = some v28 ∧ SemE PG h38 (Instr.loadAt T_uint32 v23) = some v24 ∧ SemE PG h38 (Instr.loadAt T_uint32 v21) = some v22 ∧ (popO (SemP PG (binOp BinOp.xor T_uint32 v35 v37)) fun v39 =>
 CallsH PG id_sha_turn #[v20, (Value.int IntKind.i64 25)] h38 fun v40 h41 =>
 SemE PG h41 (Instr.loadAt T_uint32 v33) = some v34 ∧ SemE PG h41 (Instr.loadAt T_uint32 v31) = some v32 ∧ SemE PG h41 (Instr.loadAt T_uint32 v27) = some v28 ∧ SemE PG h41 (Instr.loadAt T_uint32 v23) = some v24 ∧ SemE PG h41 (Instr.loadAt T_uint32 v21) = some v22 ∧ (popO (SemP PG (binOp BinOp.xor T_uint32 v39 v40)) fun v42 =>
 popO (SemP PG (binOp BinOp.add T_uint32 v22 v42)) fun v43 =>
 popO (SemP PG (binOp BinOp.add T_uint32 v43 v30)) fun v44 =>
 popO (SemP PG (binOp BinOp.add T_uint32 v44 v32)) fun v45 =>
 popO (SemP PG (binOp BinOp.add T_uint32 v45 v34)) fun v46 =>
 popO (SemP PG (Instr.indexAt T_8_uint32 t5 (Value.int IntKind.i64 1))) fun v47 =>
 popO (SemE PG h41 (Instr.loadAt T_uint32 v47)) fun v48 =>
 popO (SemP PG (binOp BinOp.and T_uint32 v18 v48)) fun v49 =>
 popO (SemP PG (Instr.indexAt T_8_uint32 t5 (Value.int IntKind.i64 2))) fun v50 =>
 popO (SemE PG h41 (Instr.loadAt T_uint32 v50)) fun v51 =>
 popO (SemP PG (binOp BinOp.and T_uint32 v18 v51)) fun v52 =>
 popO (SemP PG (binOp BinOp.xor T_uint32 v49 v52)) fun v53 =>
 popO (SemP PG (Instr.indexAt T_8_uint32 t5 (Value.int IntKind.i64 1))) fun v54 =>
 popO (SemE PG h41 (Instr.loadAt T_uint32 v54)) fun v55 =>
 popO (SemP PG (Instr.indexAt T_8_uint32 t5 (Value.int IntKind.i64 2))) fun v56 =>
 popO (SemE PG h41 (Instr.loadAt T_uint32 v56)) fun v57 =>
 popO (SemP PG (binOp BinOp.and T_uint32 v55 v57)) fun v58 =>
 popO (SemP PG (binOp BinOp.xor T_uint32 v53 v58)) fun v59 =>
 CallsH PG id_sha_turn #[v18, (Value.int IntKind.i64 2)] h41 fun v60 h61 =>
 SemE PG h61 (Instr.loadAt T_uint32 v56) = some v57 ∧ SemE PG h61 (Instr.loadAt T_uint32 v54) = some v55 ∧ SemE PG h61 (Instr.loadAt T_uint32 v50) = some v51 ∧ SemE PG h61 (Instr.loadAt T_uint32 v47) = some v48 ∧ (CallsH PG id_sha_turn #[v18, (Value.int IntKind.i64 13)] h61 fun v62 h63 =>
 SemE PG h63 (Instr.loadAt T_uint32 v56) = some v57 ∧ SemE PG h63 (Instr.loadAt T_uint32 v54) = some v55 ∧ SemE PG h63 (Instr.loadAt T_uint32 v50) = some v51 ∧ SemE PG h63 (Instr.loadAt T_uint32 v47) = some v48 ∧ (popO (SemP PG (binOp BinOp.xor T_uint32 v60 v62)) fun v64 =>
 CallsH PG id_sha_turn #[v18, (Value.int IntKind.i64 22)] h63 fun v65 h66 =>
 SemE PG h66 (Instr.loadAt T_uint32 v56) = some v57 ∧ SemE PG h66 (Instr.loadAt T_uint32 v54) = some v55 ∧ SemE PG h66 (Instr.loadAt T_uint32 v50) = some v51 ∧ SemE PG h66 (Instr.loadAt T_uint32 v47) = some v48 ∧ (popO (SemP PG (binOp BinOp.xor T_uint32 v64 v65)) fun v67 =>
 popO (SemP PG (binOp BinOp.add T_uint32 v67 v59)) fun v68 =>
 popO (SemP PG (Instr.sliceAt T_8_uint32 t5 (some (Value.int IntKind.i64 1)) none none)) fun v69 =>
 popO (SemP PG (Instr.sliceAt T_8_uint32 t5 none (some (Value.int IntKind.i64 7)) none)) fun v70 =>
 SemH PG (Builtin.copy_ #[T_sl_uint32, T_sl_uint32] T_int #[v69, v70]) h66 fun v71 h72 =>
 (popO (SemP PG (Instr.indexAt T_8_uint32 t5 (Value.int IntKind.i64 4))) fun v73 =>
 popO (SemE PG h72 (Instr.loadAt T_uint32 v73)) fun v74 =>
 popO (SemP PG (binOp BinOp.add T_uint32 v74 v46)) fun v75 =>
 popO (SemP PG (Instr.indexAt T_8_uint32 t5 (Value.int IntKind.i64 4))) fun v76 =>
 SemH PG (storeS T_uint32 v76 v75) h72 fun v77 h78 =>
 popO (SemP PG (binOp BinOp.add T_uint32 v46 v68)) fun v79 =>
 popO (SemP PG (Instr.indexAt T_8_uint32 t5 (Value.int IntKind.i64 0))) fun v80 =>
 SemH PG (storeS T_uint32 v80 v79) h78 fun v81 h82 =>
 popO (SemP PG (binOp BinOp.add T_int t18 (Value.int IntKind.i64 1))) fun v83 =>
 n14 [t0, t4, t5, v83] h82))))))))
 (LoopL [0, 5, 92] (fun n84 ρ h => sha_state_mix_b85 R n84 (ρ 0) (ρ 5) (ρ 92) h) [t0, t5, (Value.int IntKind.i64 0)] h0)
def sha_state_mix (t0 : Value) (t1 : Value) (h0 : PH) (R : Value → PH → Prop) : Prop :=
 CallsH PG id_sha_words #[t1] h0 fun v1 h2 =>
 ∀ r3, h2 r3 = none → bindH (PH.set h2 r3 (.cells (zcells PG T_64_uint32) T_64_uint32)) fun h4 =>
 SemH PG (storeS T_64_uint32 (Value.pointer (some ⟨r3, 0, none⟩)) v1) h4 fun v5 h6 =>
 popO (SemP PG (nilS t0)) fun v7 =>
 popO (SemP PG (Instr.fieldAt T_sha_state v7 0)) fun v8 =>
 popO (SemE PG h6 (Instr.loadAt T_8_uint32 v8)) fun v9 =>
 ∀ r10, h6 r10 = none → bindH (PH.set h6 r10 (.cells (zcells PG T_8_uint32) T_8_uint32)) fun h11 =>
 SemH PG (storeS T_8_uint32 (Value.pointer (some ⟨r10, 0, none⟩)) v9) h11 fun v12 h13 =>
 LoopL [0, 4, 5, 18] (fun n14 ρ h => sha_state_mix_b15 R n14 (ρ 0) (ρ 4) (ρ 5) (ρ 18) h) [t0, (Value.pointer (some ⟨r3, 0, none⟩)), (Value.pointer (some ⟨r10, 0, none⟩)), (Value.int IntKind.i64 0)] h13
def sha_state_mix.ann : Ann := { b := fun i => match i with | 5 => #[0, 1, 0, 4, 3, 31] | 6 => #[0, 1, 0, 4, 0, 28, 60, 0, 188, 508, 1023, 0, 0, 4096, 14336, 0, 32768, 0, 131072, 491520, 1046528, 2097151, 0, 4194304, 12582912, 33554431, 0, 67108864, 201326592, 536870911, 1073741823] | 7 => #[0, 1, 0, 7, 15, 0, 47, 127, 0, 0, 512, 1792, 0, 0, 8192, 28672, 65280, 0, 131072, 0, 524288, 1966080, 4194048, 8388607, 16777215] | 8 => #[0, 0, 3] | 15 => #[0, 0, 1, 5, 15, 31, 0, 64, 192, 511, 1, 1025, 4095, 8191] | _ => #[], ord := fun i => match i with | 5 => [0, 1, 2, 3, 4, 5] | 6 => [0, 1, 2, 4, 7, 11, 12, 13, 14, 15, 16, 17, 18, 19, 20, 22, 23, 24, 26, 27, 28, 3, 5, 6, 8, 9, 10, 21, 25, 29, 30] | 7 => [0, 2, 5, 8, 9, 10, 11, 12, 13, 14, 15, 16, 17, 18, 19, 20, 21, 22, 1, 3, 4, 6, 7, 23, 24] | 8 => [0, 1, 2] | 15 => [0, 1, 2, 3, 4, 5, 6, 7, 8, 9, 10, 11, 12, 13] | _ => [], keep := fun i => match i with | 3 => [0, 4, 5, 18] | 13 => [0, 5, 92] | _ => [], n := 109 }
theorem sha_state_mix.call {t0 : Value} {t1 : Value} {h0 : PH} {R : Value → PH → Prop} (H : sha_state_mix t0 t1 h0 R) : CallsH PG id_sha_state_mix #[t0, t1] h0 R :=
  callsF_by sha_state_mix.ann 200 mix Tryz.func232 (by kernel_rfl) (by kernel_rfl) (by kernel_rfl) (by kernel_rfl) (by simp [Tryz.ntmps232]) (by kernel_rfl) H
def sha_words_b31 (R : Value → PH → Prop) (n30 : List Value → PH → Prop) (t2 : Value) (t3 : Value) (t6 : Value) (h0 : PH) : Prop :=
 popO (SemP PG (binOp BinOp.lss T_int t6 (Value.int IntKind.i64 64))) fun v32 =>
 condV v32
 (popO (SemP PG (binOp BinOp.sub T_int t6 (Value.int IntKind.i64 15))) fun v33 =>
 popO (SemP PG (Instr.indexAt T_64_uint32 t3 v33)) fun v34 =>
 popO (SemE PG h0 (Instr.loadAt T_uint32 v34)) fun v35 =>
 popO (SemP PG (binOp BinOp.sub T_int t6 (Value.int IntKind.i64 2))) fun v36 =>
 popO (SemP PG (Instr.indexAt T_64_uint32 t3 v36)) fun v37 =>
 popO (SemE PG h0 (Instr.loadAt T_uint32 v37)) fun v38 =>
 popO (SemP PG (binOp BinOp.sub T_int t6 (Value.int IntKind.i64 16))) fun v39 =>
 popO (SemP PG (Instr.indexAt T_64_uint32 t3 v39)) fun v40 =>
 popO (SemE PG h0 (Instr.loadAt T_uint32 v40)) fun v41 =>
 popO (SemP PG (binOp BinOp.shr T_uint32 v35 (Value.int IntKind.u64 3))) fun v42 =>
 popO (SemP PG (binOp BinOp.sub T_int t6 (Value.int IntKind.i64 7))) fun v43 =>
 popO (SemP PG (Instr.indexAt T_64_uint32 t3 v43)) fun v44 =>
 popO (SemE PG h0 (Instr.loadAt T_uint32 v44)) fun v45 =>
 popO (SemP PG (binOp BinOp.shr T_uint32 v38 (Value.int IntKind.u64 10))) fun v46 =>
 CallsH PG id_sha_turn #[v35, (Value.int IntKind.i64 7)] h0 fun v47 h48 =>
 SemE PG h48 (Instr.loadAt T_uint32 v44) = some v45 ∧ SemE PG h48 (Instr.loadAt T_uint32 v40) = some v41 ∧ (CallsH PG id_sha_turn #[v35, (Value.int IntKind.i64 18)] h48 fun v49 h50 =>
 SemE PG h50 (Instr.loadAt T_uint32 v44) = some v45 ∧ SemE PG h50 (Instr.loadAt T_uint32 v40) = some v41 ∧ (popO (SemP PG (binOp BinOp.xor T_uint32 v47 v49)) fun v51 =>
 popO (SemP PG (binOp BinOp.xor T_uint32 v51 v42)) fun v52 =>
 popO (SemP PG (binOp BinOp.add T_uint32 v41 v52)) fun v53 =>
 popO (SemP PG (binOp BinOp.add T_uint32 v53 v45)) fun v54 =>
 CallsH PG id_sha_turn #[v38, (Value.int IntKind.i64 17)] h50 fun v55 h56 =>
 SemE PG h56 (Instr.loadAt T_uint32 v44) = some v45 ∧ SemE PG h56 (Instr.loadAt T_uint32 v40) = some v41 ∧ (CallsH PG id_sha_turn #[v38, (Value.int IntKind.i64 19)] h56 fun v57 h58 =>
 SemE PG h58 (Instr.loadAt T_uint32 v44) = some v45 ∧ SemE PG h58 (Instr.loadAt T_uint32 v40) = some v41 ∧ (popO (SemP PG (binOp BinOp.xor T_uint32 v55 v57)) fun v59 =>
 popO (SemP PG (binOp BinOp.xor T_uint32 v59 v46)) fun v60 =>
 popO (SemP PG (binOp BinOp.add T_uint32 v54 v60)) fun v61 =>
 popO (SemP PG (Instr.indexAt T_64_uint32 t3 t6)) fun v62 =>
 SemH PG (storeS T_uint32 v62 v61) h58 fun v63 h64 =>
 (popO (SemP PG (binOp BinOp.add T_int t6 (Value.int IntKind.i64 1))) fun v65 =>
 n30 [t2, t3, v65] h64))))))
 (popO (SemE PG h0 (Instr.loadAt T_64_uint32 t3)) fun v66 =>
 SemH PG (storeS T_64_uint32 t2 v66) h0 fun v67 h68 =>
 popO (SemE PG h68 (Instr.loadAt T_64_uint32 t2)) fun v69 =>
 R v69 h68)
def sha_words_b6 (R : Value → PH → Prop) (n5 : List Value → PH → Prop) (t0 : Value) (t2 : Value) (t3 : Value) (t9 : Value) (h0 : PH) : Prop :=
 popO (SemP PG (binOp BinOp.lss T_int t9 (Value.int IntKind.i64 16))) fun v7 =>
 condV v7
 (popO (SemP PG (binOp BinOp.mul T_int (Value.int IntKind.i64 4) t9)) fun v8 =>
 popO (SemP PG (binOp BinOp.mul T_int (Value.int IntKind.i64 4) t9)) fun v9 =>
 popO (SemP PG (binOp BinOp.add T_int v9 (Value.int IntKind.i64 4))) fun v10 =>
 popO (SemP PG (Instr.sliceAt T_string t0 (some v8) (some v10) none)) fun v11 =>
 popO (SemP PG (Instr.index T_string v11 (Value.int IntKind.i64 0))) fun v12 =>
 popO (SemP PG (convert T_uint8 T_uint32 v12)) fun v13 =>
 popO (SemP PG (binOp BinOp.shl T_uint32 v13 (Value.int IntKind.u64 24))) fun v14 =>
 popO (SemP PG (Instr.index T_string v11 (Value.int IntKind.i64 1))) fun v15 =>
 popO (SemP PG (convert T_uint8 T_uint32 v15)) fun v16 =>
 popO (SemP PG (binOp BinOp.shl T_uint32 v16 (Value.int IntKind.u64 16))) fun v17 =>
 popO (SemP PG (binOp BinOp.or T_uint32 v14 v17)) fun v18 =>
 popO (SemP PG (Instr.index T_string v11 (Value.int IntKind.i64 2))) fun v19 =>
 popO (SemP PG (convert T_uint8 T_uint32 v19)) fun v20 =>
 popO (SemP PG (binOp BinOp.shl T_uint32 v20 (Value.int IntKind.u64 8))) fun v21 =>
 popO (SemP PG (binOp BinOp.or T_uint32 v18 v21)) fun v22 =>
 popO (SemP PG (Instr.index T_string v11 (Value.int IntKind.i64 3))) fun v23 =>
 popO (SemP PG (convert T_uint8 T_uint32 v23)) fun v24 =>
 popO (SemP PG (binOp BinOp.or T_uint32 v22 v24)) fun v25 =>
 popO (SemP PG (Instr.indexAt T_64_uint32 t3 t9)) fun v26 =>
 SemH PG (storeS T_uint32 v26 v25) h0 fun v27 h28 =>
 (popO (SemP PG (binOp BinOp.add T_int t9 (Value.int IntKind.i64 1))) fun v29 =>
 n5 [t0, t2, t3, v29] h28))
 (LoopL [2, 3, 6] (fun n30 ρ h => sha_words_b31 R n30 (ρ 2) (ρ 3) (ρ 6) h) [t2, t3, (Value.int IntKind.i64 16)] h0)
def sha_words (t0 : Value) (h0 : PH) (R : Value → PH → Prop) : Prop :=
 ∀ r1, h0 r1 = none → bindH (PH.set h0 r1 (.cells (zcells PG T_64_uint32) T_64_uint32)) fun h2 =>
 ∀ r3, h2 r3 = none → bindH (PH.set h2 r3 (.cells (zcells PG T_64_uint32) T_64_uint32)) fun h4 =>
 LoopL [0, 2, 3, 9] (fun n5 ρ h => sha_words_b6 R n5 (ρ 0) (ρ 2) (ρ 3) (ρ 9) h) [t0, (Value.pointer (some ⟨r1, 0, none⟩)), (Value.pointer (some ⟨r3, 0, none⟩)), (Value.int IntKind.i64 0)] h4
def sha_words.ann : Ann := { b := fun i => match i with | 6 => #[0, 0, 2, 6, 14, 0, 32, 96, 224, 510, 0, 1024, 3072, 7168, 16382, 0, 32768, 98304, 262142, 524287, 1048575] | 11 => #[0, 1, 3, 7, 0, 16, 48, 112, 15, 511] | 12 => #[0, 0, 2, 6, 14, 0, 32, 0, 224, 480, 0, 1024, 4064, 8190, 0, 16384, 49152, 114688, 262142, 0, 524768, 0, 3670496, 7864800, 0, 16777216, 66585056, 134217726, 268435455, 536870911] | _ => #[], ord := fun i => match i with | 6 => [0, 1, 2, 3, 4, 5, 6, 7, 8, 9, 10, 11, 12, 13, 14, 15, 16, 17, 18, 19, 20] | 11 => [0, 1, 2, 3, 4, 5, 6, 7, 8, 9] | 12 => [0, 1, 2, 3, 4, 5, 7, 10, 11, 14, 15, 16, 17, 19, 21, 24, 25, 6, 8, 9, 12, 13, 18, 20, 22, 23, 26, 27, 28, 29] | _ => [], keep := fun i => match i with | 3 => [0, 2, 3, 9] | 9 => [2, 3, 6] | _ => [], n := 82 }
theorem sha_words.call {t0 : Value} {h0 : PH} {R : Value → PH → Prop} (H : sha_words t0 h0 R) : CallsH PG id_sha_words #[t0] h0 R :=
  callsF_by sha_words.ann 200 mix Tryz.func241 (by kernel_rfl) (by kernel_rfl) (by kernel_rfl) (by kernel_rfl) (by simp [Tryz.ntmps241]) (by kernel_rfl) H
def sha_turn (t0 : Value) (t1 : Value) (h0 : PH) (R : Value → PH → Prop) : Prop :=
 popO (SemP PG (Op.unary UnOp.neg t1)) fun v1 =>
 CallsH PG id_math_bits_RotateLeft32 #[t0, v1] h0 fun v2 h3 =>
 R v2 h3
theorem sha_turn.call {t0 : Value} {t1 : Value} {h0 : PH} {R : Value → PH → Prop} (H : sha_turn t0 t1 h0 R) : CallsH PG id_sha_turn #[t0, t1] h0 R :=
  callsF_by (an0 9) 200 mix Tryz.func242 (by kernel_rfl) (by kernel_rfl) (by kernel_rfl) (by kernel_rfl) (by simp [Tryz.ntmps242]) (by kernel_rfl) H
def math_bits_RotateLeft32 (t0 : Value) (t1 : Value) (h0 : PH) (R : Value → PH → Prop) : Prop :=
 popO (SemP PG (convert T_int T_uint t1)) fun v1 =>
 popO (SemP PG (binOp BinOp.and T_uint v1 (Value.int IntKind.u64 31))) fun v2 =>
 popO (SemP PG (binOp BinOp.shl T_uint32 t0 v2)) fun v3 =>
 popO (SemP PG (binOp BinOp.sub T_uint (Value.int IntKind.u64 32) v2)) fun v4 =>
 popO (SemP PG (binOp BinOp.shr T_uint32 t0 v4)) fun v5 =>
 popO (SemP PG (binOp BinOp.or T_uint32 v3 v5)) fun v6 =>
 R v6 h0
theorem math_bits_RotateLeft32.call {t0 : Value} {t1 : Value} {h0 : PH} {R : Value → PH → Prop} (H : math_bits_RotateLeft32 t0 t1 h0 R) : CallsH PG id_math_bits_RotateLeft32 #[t0, t1] h0 R :=
  callsF_by (an0 17) 200 mix Tryz.func247 (by kernel_rfl) (by kernel_rfl) (by kernel_rfl) (by kernel_rfl) (by simp [Tryz.ntmps247]) (by kernel_rfl) H
def sha_Hash_Sum_b10 (R : Value → PH → Prop) (n9 : List Value → PH → Prop) (t0 : Value) (t3 : Value) (t4 : Value) (t5 : Value) (h0 : PH) : Prop :=
 popO (SemP PG (binOp BinOp.geq T_int t5 (Value.int IntKind.i64 0))) fun v11 =>
 condV v11
 (popO (SemP PG (nilS t0)) fun v12 =>
 popO (SemP PG (Instr.fieldAt T_sha_Hash v12 2)) fun v13 =>
 popO (SemE PG h0 (Instr.loadAt T_int v13)) fun v14 =>
 popO (SemP PG (convert T_int T_uint64 v14)) fun v15 =>
 popO (SemP PG (binOp BinOp.mul T_uint64 v15 (Value.int IntKind.u64 8))) fun v16 =>
 popO (SemP PG (binOp BinOp.shr T_uint64 v16 t5)) fun v17 =>
 popO (SemP PG (convert T_uint64 T_uint8 v17)) fun v18 =>
 CallsH PG id_strings_Builder_WriteByte #[t4, v18] h0 fun v19 h20 =>
 popO (SemP PG (binOp BinOp.sub T_int t5 (Value.int IntKind.i64 8))) fun v21 =>
 n9 [t0, t3, t4, v21] h20)
 (popO (SemP PG (nilS t0)) fun v22 =>
 popO (SemP PG (Instr.fieldAt T_sha_Hash v22 2)) fun v23 =>
 popO (SemE PG h0 (Instr.loadAt T_int v23)) fun v24 =>
 popO (SemP PG (binOp BinOp.rem T_int v24 (Value.int IntKind.i64 64))) fun v25 =>
 popO (SemP PG (binOp BinOp.sub T_int (Value.int IntKind.i64 119) v25)) fun v26 =>
 popO (SemP PG (binOp BinOp.rem T_int v26 (Value.int IntKind.i64 64))) fun v27 =>
 CallsH PG id_strings_Repeat #[(Value.string { data := #[0] }), v27] h0 fun v28 h29 =>
 popO (SemP PG (binOp BinOp.add T_string (Value.string { data := #[128] }) v28)) fun v30 =>
 CallsH PG id_strings_Builder_String #[t4] h29 fun v31 h32 =>
 popO (SemP PG (binOp BinOp.add T_string v30 v31)) fun v33 =>
 CallsH PG id_sha_Hash_Write #[t3, v33] h32 fun v34 h35 =>
 popO (SemP PG (Instr.fieldAt T_sha_Hash t3 0)) fun v36 =>
 CallsH PG id_sha_state_digest #[v36] h35 fun v37 h38 =>
 R v37 h38)
def sha_Hash_Sum (t0 : Value) (h0 : PH) (R : Value → PH → Prop) : Prop :=
 popO (SemP PG (nilS t0)) fun v1 =>
 popO (SemE PG h0 (Instr.loadAt T_sha_Hash v1)) fun v2 =>
 ∀ r3, h0 r3 = none → bindH (PH.set h0 r3 (.cells (zcells PG T_sha_Hash) T_sha_Hash)) fun h4 =>
 SemH PG (storeS T_sha_Hash (Value.pointer (some ⟨r3, 0, none⟩)) v2) h4 fun v5 h6 =>
 ∀ r7, h6 r7 = none → bindH (PH.set h6 r7 (.cells (zcells PG T_strings_Builder) T_strings_Builder)) fun h8 =>
 LoopL [0, 3, 4, 5] (fun n9 ρ h => sha_Hash_Sum_b10 R n9 (ρ 0) (ρ 3) (ρ 4) (ρ 5) h) [t0, (Value.pointer (some ⟨r3, 0, none⟩)), (Value.pointer (some ⟨r7, 0, none⟩)), (Value.int IntKind.i64 56)] h8
theorem sha_Hash_Sum.call {t0 : Value} {h0 : PH} {R : Value → PH → Prop} (H : sha_Hash_Sum t0 h0 R) : CallsH PG id_sha_Hash_Sum #[t0] h0 R :=
  callsF_by (an1 4 [0, 3, 4, 5] 37) 200 mix Tryz.func214 (by kernel_rfl) (by kernel_rfl) (by kernel_rfl) (by kernel_rfl) (by simp [Tryz.ntmps214]) (by kernel_rfl) H
def strings_Builder_String (t0 : Value) (h0 : PH) (R : Value → PH → Prop) : Prop :=
 popO (SemP PG (nilS t0)) fun v1 =>
 popO (SemP PG (Instr.fieldAt T_strings_Builder v1 1)) fun v2 =>
 popO (SemE PG h0 (Instr.loadAt T_sl_uint8 v2)) fun v3 =>
 popO (SemP PG (nilS t0)) fun v4 =>
 popO (SemP PG (Instr.fieldAt T_strings_Builder v4 1)) fun v5 =>
 popO (SemE PG h0 (Instr.loadAt T_sl_uint8 v5)) fun v6 =>
 popO (SemP PG (Builtin.len_ #[T_sl_uint8] T_int #[v6])) fun v7 =>
 SemH PG (Builtin.unsafeSliceData_ #[T_sl_uint8] T_p_uint8 #[v3]) h0 fun v8 h9 =>
 SemE PG h9 (Instr.loadAt T_sl_uint8 v5) = some v6 ∧ (SemH PG (Builtin.unsafeString_ #[T_p_uint8, T_int] T_string #[v8, v7]) h9 fun v10 h11 =>
 (R v10 h11))
def strings_Builder_String.ann : Ann := { b := fun i => match i with | 1 => #[0, 1, 3, 7, 15, 0, 32, 96, 224, 480, 1023, 2047] | _ => #[], ord := fun i => match i with | 1 => [0, 1, 2, 3, 5, 6, 7, 8, 9, 4, 10, 11] | _ => [], keep := fun i => match i with  | _ => [], n := 14 }
theorem strings_Builder_String.call {t0 : Value} {h0 : PH} {R : Value → PH → Prop} (H : strings_Builder_String t0 h0 R) : CallsH PG id_strings_Builder_String #[t0] h0 R :=
  callsF_by strings_Builder_String.ann 200 mix Tryz.func170 (by kernel_rfl) (by kernel_rfl) (by kernel_rfl) (by kernel_rfl) (by simp [Tryz.ntmps170]) (by kernel_rfl) H
def strings_Builder_WriteByte (t0 : Value) (t1 : Value) (h0 : PH) (R : Value → PH → Prop) : Prop :=
 CallsH PG id_strings_Builder_copyCheck #[t0] h0 fun v1 h2 =>
 popO (SemP PG (nilS t0)) fun v3 =>
 popO (SemP PG (Instr.fieldAt T_strings_Builder v3 1)) fun v4 =>
 popO (SemE PG h2 (Instr.loadAt T_sl_uint8 v4)) fun v5 =>
 popO (SemA PG (Instr.buildSlice T_sl_uint8 1 #[(0, t1)])) fun x7 => ∀ r6, h2 r6 = none → popO (SemP PG (x7.2 r6)) fun v8 => bindH (PH.set h2 r6 x7.1) fun h9 =>
 SemH PG (Builtin.append_ #[T_sl_uint8, T_sl_uint8] T_sl_uint8 #[v5, v8]) h9 fun v10 h11 =>
 popO (SemP PG (nilS t0)) fun v12 =>
 popO (SemP PG (Instr.fieldAt T_strings_Builder v12 1)) fun v13 =>
 SemH PG (storeS T_sl_uint8 v13 v10) h11 fun v14 h15 =>
 R Value.nilIface h15
theorem strings_Builder_WriteByte.call {t0 : Value} {t1 : Value} {h0 : PH} {R : Value → PH → Prop} (H : strings_Builder_WriteByte t0 t1 h0 R) : CallsH PG id_strings_Builder_WriteByte #[t0, t1] h0 R :=
  callsF_by (an0 17) 200 mix Tryz.func209 (by kernel_rfl) (by kernel_rfl) (by kernel_rfl) (by kernel_rfl) (by simp [Tryz.ntmps209]) (by kernel_rfl) H
def strings_Builder_copyCheck (t0 : Value) (h0 : PH) (R : Value → PH → Prop) : Prop :=
 popO (SemP PG (nilS t0)) fun v1 =>
 popO (SemP PG (Instr.fieldAt T_strings_Builder v1 0)) fun v2 =>
 popO (SemE PG h0 (Instr.loadAt T_p_strings_Builder v2)) fun v3 =>
 popO (SemE PG h0 (binS BinOp.eql T_p_strings_Builder (.tmp 5) (.const (Value.pointer none)) v3 (Value.pointer none))) fun v4 =>
 condV v4
 (SemH PG (convert T_p_strings_Builder T_unsafe_Pointer t0) h0 fun v5 h6 =>
 CallsH PG id_internal_abi_NoEscape #[v5] h6 fun v7 h8 =>
 SemH PG (convert T_unsafe_Pointer T_p_strings_Builder v7) h8 fun v9 h10 =>
 popO (SemP PG (nilS t0)) fun v11 =>
 popO (SemP PG (Instr.fieldAt T_strings_Builder v11 0)) fun v12 =>
 SemH PG (storeS T_p_strings_Builder v12 v9) h10 fun v13 h14 =>
 R (Value.tuple #[]) h14)
 (popO (SemP PG (nilS t0)) fun v15 =>
 popO (SemP PG (Instr.fieldAt T_strings_Builder v15 0)) fun v16 =>
 popO (SemE PG h0 (Instr.loadAt T_p_strings_Builder v16)) fun v17 =>
 popO (SemE PG h0 (binS BinOp.neq T_p_strings_Builder (.tmp 17) (.tmp 18) v17 t0)) fun v18 =>
 condV v18
 (False)
 (R (Value.tuple #[]) h0))
theorem strings_Builder_copyCheck.call {t0 : Value} {h0 : PH} {R : Value → PH → Prop} (H : strings_Builder_copyCheck t0 h0 R) : CallsH PG id_strings_Builder_copyCheck #[t0] h0 R :=
  callsF_by (an0 20) 200 mix Tryz.func210 (by kernel_rfl) (by kernel_rfl) (by kernel_rfl) (by kernel_rfl) (by simp [Tryz.ntmps210]) (by kernel_rfl) H
def strings_Repeat_b102 (R : Value → PH → Prop) (n101 : List Value → PH → Prop) (t7 : Value) (t8 : Value) (t9 : Value) (h0 : PH) : Prop :=
 CallsH PG id_strings_Builder_Len #[t9] h0 fun v103 h104 =>
 popO (SemP PG (binOp BinOp.lss T_int v103 t7)) fun v105 =>
 condV v105
 (CallsH PG id_strings_Builder_Len #[t9] h104 fun v106 h107 =>
 popO (SemP PG (binOp BinOp.sub T_int t7 v106)) fun v108 =>
 CallsH PG id_strings_Builder_Len #[t9] h107 fun v109 h110 =>
 popO (SemP PG (Builtin.min_ #[T_int, T_int, T_int] T_int #[v108, v109, t8])) fun v111 =>
 CallsH PG id_strings_Builder_String #[t9] h110 fun v112 h113 =>
 popO (SemP PG (Instr.sliceAt T_string v112 none (some v111) none)) fun v114 =>
 CallsH PG id_strings_Builder_WriteString #[t9, v114] h113 fun v115 h116 =>
 n101 [t7, t8, t9] h116)
 (CallsH PG id_strings_Builder_String #[t9] h104 fun v117 h118 =>
 R v117 h118)
def strings_Repeat_k94 (R : Value → PH → Prop) (t0 : Value) (t7 : Value) (t8 : Value) (h0 : PH) : Prop :=
 ∀ r95, h0 r95 = none → bindH (PH.set h0 r95 (.cells (zcells PG T_strings_Builder) T_strings_Builder)) fun h96 =>
 CallsH PG id_strings_Builder_Grow #[(Value.pointer (some ⟨r95, 0, none⟩)), t7] h96 fun v97 h98 =>
 CallsH PG id_strings_Builder_WriteString #[(Value.pointer (some ⟨r95, 0, none⟩)), t0] h98 fun v99 h100 =>
 LoopL [7, 8, 9] (fun n101 ρ h => strings_Repeat_b102 R n101 (ρ 7) (ρ 8) (ρ 9) h) [t7, t8, (Value.pointer (some ⟨r95, 0, none⟩))] h100
def strings_Repeat_k86 (R : Value → PH → Prop) (t0 : Value) (t7 : Value) (h0 : PH) : Prop :=
 popO (SemP PG (binOp BinOp.gtr T_int t7 (Value.int IntKind.i64 8192))) fun v87 =>
 condV v87
 (popO (SemP PG (Builtin.len_ #[T_string] T_int #[t0])) fun v88 =>
 popO (SemP PG (binOp BinOp.quo T_int (Value.int IntKind.i64 8192) v88)) fun v89 =>
 popO (SemP PG (Builtin.len_ #[T_string] T_int #[t0])) fun v90 =>
 popO (SemP PG (binOp BinOp.mul T_int v89 v90)) fun v91 =>
 popO (SemE PG h0 (binS BinOp.eql T_int (.tmp 103) (.const (Value.int IntKind.i64 0)) v91 (Value.int IntKind.i64 0))) fun v92 =>
 condV v92
 (popO (SemP PG (Builtin.len_ #[T_string] T_int #[t0])) fun v93 =>
 strings_Repeat_k94 R t0 t7 v93 h0)
 (strings_Repeat_k94 R t0 t7 v91 h0))
 (strings_Repeat_k94 R t0 t7 t7 h0)
def strings_Repeat_k85 (R : Value → PH → Prop) (t0 : Value) (t7 : Value) (h0 : PH) : Prop :=
 strings_Repeat_k86 R t0 t7 h0
def strings_Repeat_k29 (R : Value → PH → Prop) (t0 : Value) (t7 : Value) (t43 : Value) (h0 : PH) : Prop :=
 condV t43
 (popO (SemP PG (binOp BinOp.leq T_int t7 (Value.int IntKind.i64 128))) fun v30 =>
 gopV (yV v30) true (fun k33 => k33 t0 h0) h0 fun v31 h32 =>
 gopV (yV v30) true (fun k36 => CallsH PG id_strings_HasPrefix #[(Value.string { data := lit0 }), v31] h32 fun v37 h38 => k36 v37 h38) h32 fun v34 h35 =>
 popO (pickV v30 v34 (Value.bool false)) fun v39 =>
 condV v39
 (popO (SemP PG (Instr.sliceAt T_string (Value.string { data := lit0 }) none (some t7) none)) fun v40 =>
 R v40 h35)
 (popO (SemP PG (binOp BinOp.leq T_int t7 (Value.int IntKind.i64 128))) fun v41 =>
 gopV (yV v41) true (fun k44 => k44 t0 h35) h35 fun v42 h43 =>
 gopV (yV v41) true (fun k47 => CallsH PG id_strings_HasPrefix #[(Value.string { data := lit1 }), v42] h43 fun v48 h49 => k47 v48 h49) h43 fun v45 h46 =>
 popO (pickV v41 v45 (Value.bool false)) fun v50 =>
 condV v50
 (popO (SemP PG (Instr.sliceAt T_string (Value.string { data := lit1 }) none (some t7) none)) fun v51 =>
 R v51 h46)
 (popO (SemP PG (binOp BinOp.leq T_int t7 (Value.int IntKind.i64 64))) fun v52 =>
 gopV (yV v52) true (fun k55 => k55 t0 h46) h46 fun v53 h54 =>
 gopV (yV v52) true (fun k58 => CallsH PG id_strings_HasPrefix #[(Value.string { data := #[48, 48, 48, 48, 48, 48, 48, 48, 48, 48, 48, 48, 48, 48, 48, 48, 48, 48, 48, 48, 48, 48, 48, 48, 48, 48, 48, 48, 48, 48, 48, 48, 48, 48, 48, 48, 48, 48, 48, 48, 48, 48, 48, 48, 48, 48, 48, 48, 48, 48, 48, 48, 48, 48, 48, 48, 48, 48, 48, 48, 48, 48, 48, 48] }), v53] h54 fun v59 h60 => k58 v59 h60) h54 fun v56 h57 =>
 popO (pickV v52 v56 (Value.bool false)) fun v61 =>
 condV v61
 (popO (SemP PG (Instr.sliceAt T_string (Value.string { data := #[48, 48, 48, 48, 48, 48, 48, 48, 48, 48, 48, 48, 48, 48, 48, 48, 48, 48, 48, 48, 48, 48, 48, 48, 48, 48, 48, 48, 48, 48, 48, 48, 48, 48, 48, 48, 48, 48, 48, 48, 48, 48, 48, 48, 48, 48, 48, 48, 48, 48, 48, 48, 48, 48, 48, 48, 48, 48, 48, 48, 48, 48, 48, 48] }) none (some t7) none)) fun v62 =>
 R v62 h57)
 (popO (SemP PG (binOp BinOp.leq T_int t7 (Value.int IntKind.i64 128))) fun v63 =>
 gopV (yV v63) true (fun k66 => k66 t0 h57) h57 fun v64 h65 =>
 gopV (yV v63) true (fun k69 => CallsH PG id_strings_HasPrefix #[(Value.string { data := lit2 }), v64] h65 fun v70 h71 => k69 v70 h71) h65 fun v67 h68 =>
 popO (pickV v63 v67 (Value.bool false)) fun v72 =>
 condV v72
 (popO (SemP PG (Instr.sliceAt T_string (Value.string { data := lit2 }) none (some t7) none)) fun v73 =>
 R v73 h68)
 (popO (SemP PG (binOp BinOp.leq T_int t7 (Value.int IntKind.i64 64))) fun v74 =>
 gopV (yV v74) true (fun k77 => k77 t0 h68) h68 fun v75 h76 =>
 gopV (yV v74) true (fun k80 => CallsH PG id_strings_HasPrefix #[(Value.string { data := #[9, 9, 9, 9, 9, 9, 9, 9, 9, 9, 9, 9, 9, 9, 9, 9, 9, 9, 9, 9, 9, 9, 9, 9, 9, 9, 9, 9, 9, 9, 9, 9, 9, 9, 9, 9, 9, 9, 9, 9, 9, 9, 9, 9, 9, 9, 9, 9, 9, 9, 9, 9, 9, 9, 9, 9, 9, 9, 9, 9, 9, 9, 9, 9] }), v75] h76 fun v81 h82 => k80 v81 h82) h76 fun v78 h79 =>
 popO (pickV v74 v78 (Value.bool false)) fun v83 =>
 condV v83
 (popO (SemP PG (Instr.sliceAt T_string (Value.string { data := #[9, 9, 9, 9, 9, 9, 9, 9, 9, 9, 9, 9, 9, 9, 9, 9, 9, 9, 9, 9, 9, 9, 9, 9, 9, 9, 9, 9, 9, 9, 9, 9, 9, 9, 9, 9, 9, 9, 9, 9, 9, 9, 9, 9, 9, 9, 9, 9, 9, 9, 9, 9, 9, 9, 9, 9, 9, 9, 9, 9, 9, 9, 9, 9] }) none (some t7) none)) fun v84 =>
 R v84 h79)
 (strings_Repeat_k85 R t0 t7 h79))))))
 (strings_Repeat_k85 R t0 t7 h0)
def strings_Repeat_k23 (R : Value → PH → Prop) (t0 : Value) (t6 : Value) (h0 : PH) : Prop :=
 popO (SemP PG (convert T_uint T_int t6)) fun v24 =>
 popO (SemP PG (Builtin.len_ #[T_string] T_int #[t0])) fun v25 =>
 popO (SemE PG h0 (binS BinOp.eql T_int (.tmp 39) (.const (Value.int IntKind.i64 0)) v25 (Value.int IntKind.i64 0))) fun v26 =>
 condV v26
 (R (Value.string { data := #[] }) h0)
 (popO (SemP PG (Instr.index T_string t0 (Value.int IntKind.i64 0))) fun v27 =>
 popO (SemE PG h0 (binS BinOp.eql T_uint8 (.tmp 42) (.const (Value.int IntKind.u8 32)) v27 (Value.int IntKind.u8 32))) fun v28 =>
 condV v28
 (strings_Repeat_k29 R t0 v24 v28 h0)
 (popO (SemE PG h0 (binS BinOp.eql T_uint8 (.tmp 42) (.const (Value.int IntKind.u8 45)) v27 (Value.int IntKind.u8 45))) fun v119 =>
 condV v119
 (strings_Repeat_k29 R t0 v24 v119 h0)
 (popO (SemE PG h0 (binS BinOp.eql T_uint8 (.tmp 42) (.const (Value.int IntKind.u8 48)) v27 (Value.int IntKind.u8 48))) fun v120 =>
 condV v120
 (strings_Repeat_k29 R t0 v24 v120 h0)
 (popO (SemE PG h0 (binS BinOp.eql T_uint8 (.tmp 42) (.const (Value.int IntKind.u8 61)) v27 (Value.int IntKind.u8 61))) fun v121 =>
 condV v121
 (strings_Repeat_k29 R t0 v24 v121 h0)
 (popO (SemE PG h0 (binS BinOp.eql T_uint8 (.tmp 42) (.const (Value.int IntKind.u8 9)) v27 (Value.int IntKind.u8 9))) fun v122 =>
 strings_Repeat_k29 R t0 v24 v122 h0)))))
def strings_Repeat_k5 (R : Value → PH → Prop) (t0 : Value) (t1 : Value) (h0 : PH) : Prop :=
 popO (SemP PG (Builtin.len_ #[T_string] T_int #[t0])) fun v6 =>
 popO (SemP PG (convert T_int T_uint v6)) fun v7 =>
 popO (SemP PG (convert T_int T_uint t1)) fun v8 =>
 CallsH PG id_math_bits_Mul #[v7, v8] h0 fun v9 h10 =>
 popO (SemP PG (Instr.extract v9 0)) fun v11 =>
 popO (SemP PG (Instr.extract v9 1)) fun v12 =>
 popO (SemP PG (binOp BinOp.gtr T_uint v11 (Value.int IntKind.u64 0))) fun v13 =>
 gopV (yV v13) false (fun k16 => k16 v12 h10) h10 fun v14 h15 =>
 gopV (yV v13) false (fun k19 => popO (SemP PG (binOp BinOp.gtr T_uint v14 (Value.int IntKind.u64 9223372036854775807))) fun v20 => k19 v20 h15) h15 fun v17 h18 =>
 popO (pickV v13 (Value.bool true) v17) fun v21 =>
 condV v21
 (popO (SemP PG (Instr.makeInterface T_string (Value.string { data := #[115, 116, 114, 105, 110, 103, 115, 58, 32, 82, 101, 112, 101, 97, 116, 32, 111, 117, 116, 112, 117, 116, 32, 108, 101, 110, 103, 116, 104, 32, 111, 118, 101, 114, 102, 108, 111, 119] }))) fun v22 =>
 False)
 (strings_Repeat_k23 R t0 v12 h18)
def strings_Repeat (t0 : Value) (t1 : Value) (h0 : PH) (R : Value → PH → Prop) : Prop :=
 popO (SemE PG h0 (binS BinOp.eql T_int (.tmp 11) (.const (Value.int IntKind.i64 0)) t1 (Value.int IntKind.i64 0))) fun v1 =>
 condV v1
 (R (Value.string { data := #[] }) h0)
 (popO (SemE PG h0 (binS BinOp.eql T_int (.tmp 11) (.const (Value.int IntKind.i64 1)) t1 (Value.int IntKind.i64 1))) fun v2 =>
 condV v2
 (R t0 h0)
 (popO (SemP PG (binOp BinOp.lss T_int t1 (Value.int IntKind.i64 0))) fun v3 =>
 condV v3
 (popO (SemP PG (Instr.makeInterface T_string (Value.string { data := #[115, 116, 114, 105, 110, 103, 115, 58, 32, 110, 101, 103, 97, 116, 105, 118, 101, 32, 82, 101, 112, 101, 97, 116, 32, 99, 111, 117, 110, 116] }))) fun v4 =>
 False)
 (strings_Repeat_k5 R t0 t1 h0)))
theorem strings_Repeat.call {t0 : Value} {t1 : Value} {h0 : PH} {R : Value → PH → Prop} (H : strings_Repeat t0 t1 h0 R) : CallsH PG id_strings_Repeat #[t0, t1] h0 R :=
  callsF_by (an1 38 [7, 8, 9] 125) 200 mix Tryz.func233 (by kernel_rfl) (by kernel_rfl) (by kernel_rfl) (by kernel_rfl) (by simp [Tryz.ntmps233]) (by kernel_rfl) H
def strings_Builder_WriteString (t0 : Value) (t1 : Value) (h0 : PH) (R : Value → PH → Prop) : Prop :=
 CallsH PG id_strings_Builder_copyCheck #[t0] h0 fun v1 h2 =>
 popO (SemP PG (nilS t0)) fun v3 =>
 popO (SemP PG (Instr.fieldAt T_strings_Builder v3 1)) fun v4 =>
 popO (SemE PG h2 (Instr.loadAt T_sl_uint8 v4)) fun v5 =>
 SemH PG (Builtin.append_ #[T_sl_uint8, T_string] T_sl_uint8 #[v5, t1]) h2 fun v6 h7 =>
 popO (SemP PG (nilS t0)) fun v8 =>
 popO (SemP PG (Instr.fieldAt T_strings_Builder v8 1)) fun v9 =>
 SemH PG (storeS T_sl_uint8 v9 v6) h7 fun v10 h11 =>
 popO (SemP PG (Builtin.len_ #[T_string] T_int #[t1])) fun v12 =>
 R (Value.tuple #[v12, Value.nilIface]) h11
theorem strings_Builder_WriteString.call {t0 : Value} {t1 : Value} {h0 : PH} {R : Value → PH → Prop} (H : strings_Builder_WriteString t0 t1 h0 R) : CallsH PG id_strings_Builder_WriteString #[t0, t1] h0 R :=
  callsF_by (an0 19) 200 mix Tryz.func168 (by kernel_rfl) (by kernel_rfl) (by kernel_rfl) (by kernel_rfl) (by simp [Tryz.ntmps168]) (by kernel_rfl) H
def math_bits_Mul (t0 : Value) (t1 : Value) (h0 : PH) (R : Value → PH → Prop) : Prop :=
 condV (Value.bool false)
 (popO (SemP PG (convert T_uint T_uint32 t0)) fun v1 =>
 popO (SemP PG (convert T_uint T_uint32 t1)) fun v2 =>
 CallsH PG id_math_bits_Mul32 #[v1, v2] h0 fun v3 h4 =>
 popO (SemP PG (Instr.extract v3 0)) fun v5 =>
 popO (SemP PG (Instr.extract v3 1)) fun v6 =>
 popO (SemP PG (convert T_uint32 T_uint v5)) fun v7 =>
 popO (SemP PG (convert T_uint32 T_uint v6)) fun v8 =>
 R (Value.tuple #[v7, v8]) h4)
 (CallsH PG id_math_bits_Mul64 #[t0, t1] h0 fun v9 h10 =>
 popO (SemP PG (Instr.extract v9 0)) fun v11 =>
 popO (SemP PG (Instr.extract v9 1)) fun v12 =>
 R (Value.tuple #[v11, v12]) h10)
theorem math_bits_Mul.call {t0 : Value} {t1 : Value} {h0 : PH} {R : Value → PH → Prop} (H : math_bits_Mul t0 t1 h0 R) : CallsH PG id_math_bits_Mul #[t0, t1] h0 R :=
  callsF_by (an0 30) 200 mix Tryz.func243 (by kernel_rfl) (by kernel_rfl) (by kernel_rfl) (by kernel_rfl) (by simp [Tryz.ntmps243]) (by kernel_rfl) H
def math_bits_Mul64 (t0 : Value) (t1 : Value) (h0 : PH) (R : Value → PH → Prop) : Prop :=
 popO (SemP PG (binOp BinOp.and T_uint64 t0 (Value.int IntKind.u64 4294967295))) fun v1 =>
 popO (SemP PG (binOp BinOp.shr T_uint64 t0 (Value.int IntKind.u64 32))) fun v2 =>
 popO (SemP PG (binOp BinOp.and T_uint64 t1 (Value.int IntKind.u64 4294967295))) fun v3 =>
 popO (SemP PG (binOp BinOp.shr T_uint64 t1 (Value.int IntKind.u64 32))) fun v4 =>
 popO (SemP PG (binOp BinOp.mul T_uint64 v1 v3)) fun v5 =>
 popO (SemP PG (binOp BinOp.mul T_uint64 v2 v3)) fun v6 =>
 popO (SemP PG (binOp BinOp.shr T_uint64 v5 (Value.int IntKind.u64 32))) fun v7 =>
 popO (SemP PG (binOp BinOp.add T_uint64 v6 v7)) fun v8 =>
 popO (SemP PG (binOp BinOp.and T_uint64 v8 (Value.int IntKind.u64 4294967295))) fun v9 =>
 popO (SemP PG (binOp BinOp.shr T_uint64 v8 (Value.int IntKind.u64 32))) fun v10 =>
 popO (SemP PG (binOp BinOp.mul T_uint64 v1 v4)) fun v11 =>
 popO (SemP PG (binOp BinOp.add T_uint64 v9 v11)) fun v12 =>
 popO (SemP PG (binOp BinOp.mul T_uint64 v2 v4)) fun v13 =>
 popO (SemP PG (binOp BinOp.add T_uint64 v13 v10)) fun v14 =>
 popO (SemP PG (binOp BinOp.shr T_uint64 v12 (Value.int IntKind.u64 32))) fun v15 =>
 popO (SemP PG (binOp BinOp.add T_uint64 v14 v15)) fun v16 =>
 popO (SemP PG (binOp BinOp.mul T_uint64 t0 t1)) fun v17 =>
 R (Value.tuple #[v16, v17]) h0
theorem math_bits_Mul64.call {t0 : Value} {t1 : Value} {h0 : PH} {R : Value → PH → Prop} (H : math_bits_Mul64 t0 t1 h0 R) : CallsH PG id_math_bits_Mul64 #[t0, t1] h0 R :=
  callsF_by (an0 51) 200 mix Tryz.func249 (by kernel_rfl) (by kernel_rfl) (by kernel_rfl) (by kernel_rfl) (by simp [Tryz.ntmps249]) (by kernel_rfl) H
def strings_Builder_Grow_k5 (R : Value → PH → Prop) (t0 : Value) (t1 : Value) (h0 : PH) : Prop :=
 popO (SemP PG (nilS t0)) fun v6 =>
 popO (SemP PG (Instr.fieldAt T_strings_Builder v6 1)) fun v7 =>
 popO (SemE PG h0 (Instr.loadAt T_sl_uint8 v7)) fun v8 =>
 popO (SemP PG (Builtin.cap_ #[T_sl_uint8] T_int #[v8])) fun v9 =>
 popO (SemP PG (nilS t0)) fun v10 =>
 popO (SemP PG (Instr.fieldAt T_strings_Builder v10 1)) fun v11 =>
 popO (SemE PG h0 (Instr.loadAt T_sl_uint8 v11)) fun v12 =>
 popO (SemP PG (Builtin.len_ #[T_sl_uint8] T_int #[v12])) fun v13 =>
 popO (SemP PG (binOp BinOp.sub T_int v9 v13)) fun v14 =>
 popO (SemP PG (binOp BinOp.lss T_int v14 t1)) fun v15 =>
 condV v15
 (CallsH PG id_strings_Builder_grow #[t0, t1] h0 fun v16 h17 =>
 R (Value.tuple #[]) h17)
 (R (Value.tuple #[]) h0)
def strings_Builder_Grow (t0 : Value) (t1 : Value) (h0 : PH) (R : Value → PH → Prop) : Prop :=
 CallsH PG id_strings_Builder_copyCheck #[t0] h0 fun v1 h2 =>
 popO (SemP PG (binOp BinOp.lss T_int t1 (Value.int IntKind.i64 0))) fun v3 =>
 condV v3
 (popO (SemP PG (Instr.makeInterface T_string (Value.string { data := #[115, 116, 114, 105, 110, 103, 115, 46, 66, 117, 105, 108, 100, 101, 114, 46, 71, 114, 111, 119, 58, 32, 110, 101, 103, 97, 116, 105, 118, 101, 32, 99, 111, 117, 110, 116] }))) fun v4 =>
 False)
 (strings_Builder_Grow_k5 R t0 t1 h2)
def strings_Builder_Grow.ann : Ann := { b := fun i => match i with | 3 => #[0, 1, 3, 7, 15, 0, 32, 96, 224, 480, 1023, 0, 4095] | _ => #[], ord := fun i => match i with | 3 => [0, 1, 2, 3, 4, 5, 6, 7, 8, 9, 10, 11, 12] | _ => [], keep := fun i => match i with  | _ => [], n := 25 }
theorem strings_Builder_Grow.call {t0 : Value} {t1 : Value} {h0 : PH} {R : Value → PH → Prop} (H : strings_Builder_Grow t0 t1 h0 R) : CallsH PG id_strings_Builder_Grow #[t0, t1] h0 R :=
  callsF_by strings_Builder_Grow.ann 200 mix Tryz.func245 (by kernel_rfl) (by kernel_rfl) (by kernel_rfl) (by kernel_rfl) (by simp [Tryz.ntmps245]) (by kernel_rfl) H
def strings_Builder_grow (t0 : Value) (t1 : Value) (h0 : PH) (R : Value → PH → Prop) : Prop :=
 popO (SemP PG (nilS t0)) fun v1 =>
 popO (SemP PG (Instr.fieldAt T_strings_Builder v1 1)) fun v2 =>
 popO (SemE PG h0 (Instr.loadAt T_sl_uint8 v2)) fun v3 =>
 popO (SemP PG (Builtin.cap_ #[T_sl_uint8] T_int #[v3])) fun v4 =>
 popO (SemP PG (binOp BinOp.mul T_int (Value.int IntKind.i64 2) v4)) fun v5 =>
 popO (SemP PG (binOp BinOp.add T_int v5 t1)) fun v6 =>
 popO (SemP PG (nilS t0)) fun v7 =>
 popO (SemP PG (Instr.fieldAt T_strings_Builder v7 1)) fun v8 =>
 popO (SemE PG h0 (Instr.loadAt T_sl_uint8 v8)) fun v9 =>
 popO (SemP PG (Builtin.len_ #[T_sl_uint8] T_int #[v9])) fun v10 =>
 CallsH PG id_internal_bytealg_MakeNoZero #[v6] h0 fun v11 h12 =>
 SemE PG h12 (Instr.loadAt T_sl_uint8 v8) = some v9 ∧ (popO (SemP PG (Instr.sliceAt T_sl_uint8 v11 none (some v10) none)) fun v13 =>
 popO (SemP PG (nilS t0)) fun v14 =>
 popO (SemP PG (Instr.fieldAt T_strings_Builder v14 1)) fun v15 =>
 popO (SemE PG h12 (Instr.loadAt T_sl_uint8 v15)) fun v16 =>
 SemH PG (Builtin.copy_ #[T_sl_uint8, T_sl_uint8] T_int #[v13, v16]) h12 fun v17 h18 =>
 popO (SemP PG (nilS t0)) fun v19 =>
 popO (SemP PG (Instr.fieldAt T_strings_Builder v19 1)) fun v20 =>
 SemH PG (storeS T_sl_uint8 v20 v13) h18 fun v21 h22 =>
 R (Value.tuple #[]) h22)
def strings_Builder_grow.ann : Ann := { b := fun i => match i with | 0 => #[0, 1, 3, 7, 15, 31, 0, 127, 255, 0, 512, 1536, 3584, 7680, 16383, 32767] | _ => #[], ord := fun i => match i with | 0 => [0, 1, 2, 3, 4, 5, 6, 7, 9, 10, 11, 12, 13, 8, 14, 15] | _ => [], keep := fun i => match i with  | _ => [], n := 30 }
theorem strings_Builder_grow.call {t0 : Value} {t1 : Value} {h0 : PH} {R : Value → PH → Prop} (H : strings_Builder_grow t0 t1 h0 R) : CallsH PG id_strings_Builder_grow #[t0, t1] h0 R :=
  callsF_by strings_Builder_grow.ann 200 mix Tryz.func251 (by kernel_rfl) (by kernel_rfl) (by kernel_rfl) (by kernel_rfl) (by simp [Tryz.ntmps251]) (by kernel_rfl) H
def strings_Builder_Len (t0 : Value) (h0 : PH) (R : Value → PH → Prop) : Prop :=
 popO (SemP PG (nilS t0)) fun v1 =>
 popO (SemP PG (Instr.fieldAt T_strings_Builder v1 1)) fun v2 =>
 popO (SemE PG h0 (Instr.loadAt T_sl_uint8 v2)) fun v3 =>
 popO (SemP PG (Builtin.len_ #[T_sl_uint8] T_int #[v3])) fun v4 =>
 R v4 h0
theorem strings_Builder_Len.call {t0 : Value} {h0 : PH} {R : Value → PH → Prop} (H : strings_Builder_Len t0 h0 R) : CallsH PG id_strings_Builder_Len #[t0] h0 R :=
  callsF_by (an0 8) 200 mix Tryz.func246 (by kernel_rfl) (by kernel_rfl) (by kernel_rfl) (by kernel_rfl) (by simp [Tryz.ntmps246]) (by kernel_rfl) H
def sha_state_digest_b11 (R : Value → PH → Prop) (n6 : List Value → PH → Prop) (n10 : List Value → PH → Prop) (t3 : Value) (t5 : Value) (t6 : Value) (t10 : Value) (t11 : Value) (h0 : PH) : Prop :=
 popO (SemP PG (binOp BinOp.geq T_int t6 (Value.int IntKind.i64 0))) fun v12 =>
 condV v12
 (popO (SemP PG (binOp BinOp.shr T_uint32 t5 t6)) fun v13 =>
 popO (SemP PG (convert T_uint32 T_uint8 v13)) fun v14 =>
 CallsH PG id_strings_Builder_WriteByte #[t3, v14] h0 fun v15 h16 =>
 popO (SemP PG (binOp BinOp.sub T_int t6 (Value.int IntKind.i64 8))) fun v17 =>
 n10 [t3, t5, v17, t10, t11] h16)
 (popO (SemP PG (binOp BinOp.add T_int t11 (Value.int IntKind.i64 1))) fun v18 =>
 n6 [t3, t10, v18] h0)
def sha_state_digest_b7 (R : Value → PH → Prop) (n6 : List Value → PH → Prop) (t3 : Value) (t10 : Value) (t11 : Value) (h0 : PH) : Prop :=
 popO (SemP PG (binOp BinOp.lss T_int t11 (Value.int IntKind.i64 8))) fun v8 =>
 condV v8
 (popO (SemP PG (Instr.index T_8_uint32 t10 t11)) fun v9 =>
 LoopL [3, 5, 6, 10, 11] (fun n10 ρ h => sha_state_digest_b11 R n6 n10 (ρ 3) (ρ 5) (ρ 6) (ρ 10) (ρ 11) h) [t3, v9, (Value.int IntKind.i64 24), t10, t11] h0)
 (CallsH PG id_strings_Builder_String #[t3] h0 fun v19 h20 =>
 R v19 h20)
def sha_state_digest (t0 : Value) (h0 : PH) (R : Value → PH → Prop) : Prop :=
 ∀ r1, h0 r1 = none → bindH (PH.set h0 r1 (.cells (zcells PG T_strings_Builder) T_strings_Builder)) fun h2 =>
 popO (SemP PG (nilS t0)) fun v3 =>
 popO (SemP PG (Instr.fieldAt T_sha_state v3 0)) fun v4 =>
 popO (SemE PG h2 (Instr.loadAt T_8_uint32 v4)) fun v5 =>
 LoopL [3, 10, 11] (fun n6 ρ h => sha_state_digest_b7 R n6 (ρ 3) (ρ 10) (ρ 11) h) [(Value.pointer (some ⟨r1, 0, none⟩)), v5, (Value.int IntKind.i64 0)] h2
def sha_state_digest.ann : Ann := { b := fun i => match i with  | _ => #[], ord := fun i => match i with  | _ => [], keep := fun i => match i with | 3 => [3, 10, 11] | 6 => [3, 5, 6, 10, 11] | _ => [], n := 25 }
theorem sha_state_digest.call {t0 : Value} {h0 : PH} {R : Value → PH → Prop} (H : sha_state_digest t0 h0 R) : CallsH PG id_sha_state_digest #[t0] h0 R :=
  callsF_by sha_state_digest.ann 200 mix Tryz.func234 (by kernel_rfl) (by kernel_rfl) (by kernel_rfl) (by kernel_rfl) (by simp [Tryz.ntmps234]) (by kernel_rfl) H
def merkle_digest (t0 : Value) (h0 : PH) (R : Value → PH → Prop) : Prop :=
 popO (SemP PG (Builtin.len_ #[T_sl_api_Pair] T_int #[t0])) fun v1 =>
 popO (SemE PG h0 (binS BinOp.eql T_int (.tmp 5) (.const (Value.int IntKind.i64 1)) v1 (Value.int IntKind.i64 1))) fun v2 =>
 condV v2
 (popO (SemP PG (Instr.indexAt T_sl_api_Pair t0 (Value.int IntKind.i64 0))) fun v3 =>
 popO (SemE PG h0 (Instr.loadAt T_api_Pair v3)) fun v4 =>
 CallsH PG id_merkle_Leaf #[v4] h0 fun v5 h6 =>
 R v5 h6)
 (popO (SemP PG (Builtin.len_ #[T_sl_api_Pair] T_int #[t0])) fun v7 =>
 CallsH PG id_merkle_left #[v7] h0 fun v8 h9 =>
 popO (SemP PG (Instr.sliceAt T_sl_api_Pair t0 none (some v8) none)) fun v10 =>
 popO (SemP PG (Instr.sliceAt T_sl_api_Pair t0 (some v8) none none)) fun v11 =>
 CallsH PG id_merkle_digest #[v10] h9 fun v12 h13 =>
 (CallsH PG id_merkle_digest #[v11] h13 fun v14 h15 =>
 (CallsH PG id_merkle_both #[v12, v14] h15 fun v16 h17 =>
 (R v16 h17))))
def merkle_digest.ann : Ann := { b := fun i => match i with | 4 => #[0, 0, 3, 7, 0, 0, 48, 127, 255, 511] | _ => #[], ord := fun i => match i with | 4 => [0, 1, 2, 4, 5, 6, 3, 7, 8, 9] | _ => [], keep := fun i => match i with  | _ => [], n := 23 }
theorem merkle_digest.call {t0 : Value} {h0 : PH} {R : Value → PH → Prop} (H : merkle_digest t0 h0 R) : CallsH PG id_merkle_digest #[t0] h0 R :=
  callsF_by merkle_digest.ann 200 mix Tryz.func129 (by kernel_rfl) (by kernel_rfl) (by kernel_rfl) (by kernel_rfl) (by simp [Tryz.ntmps129]) (by kernel_rfl) H
def merkle_Leaf (t0 : Value) (h0 : PH) (R : Value → PH → Prop) : Prop :=
 ∀ r1, h0 r1 = none → bindH (PH.set h0 r1 (.cells (Value.cells t0) T_api_Pair)) fun h2 =>
 popO (SemP PG (Instr.fieldAt T_api_Pair (Value.pointer (some ⟨r1, 0, none⟩)) 0)) fun v3 =>
 popO (SemE PG h2 (Instr.loadAt T_string v3)) fun v4 =>
 popO (SemP PG (Builtin.len_ #[T_string] T_int #[v4])) fun v5 =>
 popO (SemP PG (Instr.fieldAt T_api_Pair (Value.pointer (some ⟨r1, 0, none⟩)) 0)) fun v6 =>
 popO (SemE PG h2 (Instr.loadAt T_string v6)) fun v7 =>
 popO (SemP PG (Instr.fieldAt T_api_Pair (Value.pointer (some ⟨r1, 0, none⟩)) 1)) fun v8 =>
 popO (SemE PG h2 (Instr.loadAt T_string v8)) fun v9 =>
 popO (SemP PG (Builtin.len_ #[T_string] T_int #[v9])) fun v10 =>
 popO (SemP PG (Instr.fieldAt T_api_Pair (Value.pointer (some ⟨r1, 0, none⟩)) 1)) fun v11 =>
 popO (SemE PG h2 (Instr.loadAt T_string v11)) fun v12 =>
 CallsH PG id_merkle_one #[v5] h2 fun v13 h14 =>
 SemE PG h14 (Instr.loadAt T_string v11) = some v12 ∧ SemE PG h14 (Instr.loadAt T_string v8) = some v9 ∧ SemE PG h14 (Instr.loadAt T_string v6) = some v7 ∧ (CallsH PG id_merkle_one #[v10] h14 fun v15 h16 =>
 SemE PG h16 (Instr.loadAt T_string v11) = some v12 ∧ SemE PG h16 (Instr.loadAt T_string v6) = some v7 ∧ (popO (SemA PG (Instr.buildSlice T_sl_string 5 #[(0, (Value.string { data := #[0] })), (1, v13), (2, v7), (3, v15), (4, v12)])) fun x18 => ∀ r17, h16 r17 = none → popO (SemP PG (x18.2 r17)) fun v19 => bindH (PH.set h16 r17 x18.1) fun h20 =>
 CallsH PG id_sha_Sum #[v19] h20 fun v21 h22 =>
 (R v21 h22)))
def merkle_Leaf.ann : Ann := { b := fun i => match i with | 1 => #[0, 1, 3, 7, 0, 16, 0, 64, 192, 463, 0, 1024, 4095, 8191, 16383] | _ => #[], ord := fun i => match i with | 1 => [0, 1, 2, 4, 5, 6, 7, 8, 10, 11, 3, 9, 12, 13, 14] | _ => [], keep := fun i => match i with  | _ => [], n := 17 }
theorem merkle_Leaf.call {t0 : Value} {h0 : PH} {R : Value → PH → Prop} (H : merkle_Leaf t0 h0 R) : CallsH PG id_merkle_Leaf #[t0] h0 R :=
  callsF_by merkle_Leaf.ann 200 mix Tryz.func177 (by kernel_rfl) (by kernel_rfl) (by kernel_rfl) (by kernel_rfl) (by simp [Tryz.ntmps177]) (by kernel_rfl) H
def merkle_left (t0 : Value) (h0 : PH) (R : Value → PH → Prop) : Prop :=
 popO (SemP PG (binOp BinOp.sub T_int t0 (Value.int IntKind.i64 1))) fun v1 =>
 popO (SemP PG (convert T_int T_uint v1)) fun v2 =>
 CallsH PG id_math_bits_Len #[v2] h0 fun v3 h4 =>
 popO (SemP PG (binOp BinOp.sub T_int v3 (Value.int IntKind.i64 1))) fun v5 =>
 popO (SemP PG (binOp BinOp.shl T_int (Value.int IntKind.i64 1) v5)) fun v6 =>
 R v6 h4
theorem merkle_left.call {t0 : Value} {h0 : PH} {R : Value → PH → Prop} (H : merkle_left t0 h0 R) : CallsH PG id_merkle_left #[t0] h0 R :=
  callsF_by (an0 9) 200 mix Tryz.func178 (by kernel_rfl) (by kernel_rfl) (by kernel_rfl) (by kernel_rfl) (by simp [Tryz.ntmps178]) (by kernel_rfl) H
def math_bits_Len (t0 : Value) (h0 : PH) (R : Value → PH → Prop) : Prop :=
 condV (Value.bool false)
 (popO (SemP PG (convert T_uint T_uint32 t0)) fun v1 =>
 CallsH PG id_math_bits_Len32 #[v1] h0 fun v2 h3 =>
 R v2 h3)
 (CallsH PG id_math_bits_Len64 #[t0] h0 fun v4 h5 =>
 R v4 h5)
theorem math_bits_Len.call {t0 : Value} {h0 : PH} {R : Value → PH → Prop} (H : math_bits_Len t0 h0 R) : CallsH PG id_math_bits_Len #[t0] h0 R :=
  callsF_by (an0 8) 200 mix Tryz.func131 (by kernel_rfl) (by kernel_rfl) (by kernel_rfl) (by kernel_rfl) (by simp [Tryz.ntmps131]) (by kernel_rfl) H
def math_bits_Len64_k11 (R : Value → PH → Prop) (t0 : Value) (t2 : Value) (h0 : PH) : Prop :=
 popO (SemP PG (convert T_uint64 T_uint8 t0)) fun v12 =>
 popO (SemP PG (Instr.index T_string (Value.string { data := lit3 }) v12)) fun v13 =>
 popO (SemP PG (convert T_uint8 T_int v13)) fun v14 =>
 popO (SemP PG (binOp BinOp.add T_int t2 v14)) fun v15 =>
 R v15 h0
def math_bits_Len64_k7 (R : Value → PH → Prop) (t0 : Value) (t2 : Value) (h0 : PH) : Prop :=
 popO (SemP PG (binOp BinOp.geq T_uint64 t0 (Value.int IntKind.u64 256))) fun v8 =>
 condV v8
 (popO (SemP PG (binOp BinOp.shr T_uint64 t0 (Value.int IntKind.u64 8))) fun v9 =>
 popO (SemP PG (binOp BinOp.add T_int t2 (Value.int IntKind.i64 8))) fun v10 =>
 math_bits_Len64_k11 R v9 v10 h0)
 (math_bits_Len64_k11 R t0 t2 h0)
def math_bits_Len64_k3 (R : Value → PH → Prop) (t0 : Value) (t2 : Value) (h0 : PH) : Prop :=
 popO (SemP PG (binOp BinOp.geq T_uint64 t0 (Value.int IntKind.u64 65536))) fun v4 =>
 condV v4
 (popO (SemP PG (binOp BinOp.shr T_uint64 t0 (Value.int IntKind.u64 16))) fun v5 =>
 popO (SemP PG (binOp BinOp.add T_int t2 (Value.int IntKind.i64 16))) fun v6 =>
 math_bits_Len64_k7 R v5 v6 h0)
 (math_bits_Len64_k7 R t0 t2 h0)
def math_bits_Len64 (t0 : Value) (h0 : PH) (R : Value → PH → Prop) : Prop :=
 popO (SemP PG (binOp BinOp.geq T_uint64 t0 (Value.int IntKind.u64 4294967296))) fun v1 =>
 condV v1
 (popO (SemP PG (binOp BinOp.shr T_uint64 t0 (Value.int IntKind.u64 32))) fun v2 =>
 math_bits_Len64_k3 R v2 (Value.int IntKind.i64 32) h0)
 (math_bits_Len64_k3 R t0 (Value.int IntKind.i64 0) h0)
theorem math_bits_Len64.call {t0 : Value} {h0 : PH} {R : Value → PH → Prop} (H : math_bits_Len64 t0 h0 R) : CallsH PG id_math_bits_Len64 #[t0] h0 R :=
  callsF_by (an0 25) 200 mix Tryz.func191 (by kernel_rfl) (by kernel_rfl) (by kernel_rfl) (by kernel_rfl) (by simp [Tryz.ntmps191]) (by kernel_rfl) H
def merkle_both (t0 : Value) (t1 : Value) (h0 : PH) (R : Value → PH → Prop) : Prop :=
 popO (SemA PG (Instr.buildSlice T_sl_string 3 #[(0, (Value.string { data := #[1] })), (1, t0), (2, t1)])) fun x2 => ∀ r1, h0 r1 = none → popO (SemP PG (x2.2 r1)) fun v3 => bindH (PH.set h0 r1 x2.1) fun h4 =>
 CallsH PG id_sha_Sum #[v3] h4 fun v5 h6 =>
 R v5 h6
theorem merkle_both.call {t0 : Value} {t1 : Value} {h0 : PH} {R : Value → PH → Prop} (H : merkle_both t0 t1 h0 R) : CallsH PG id_merkle_both #[t0, t1] h0 R :=
  callsF_by (an0 9) 200 mix Tryz.func179 (by kernel_rfl) (by kernel_rfl) (by kernel_rfl) (by kernel_rfl) (by simp [Tryz.ntmps179]) (by kernel_rfl) H
def client_New (h0 : PH) (R : Value → PH → Prop) : Prop :=
 popO (SemA PG (Instr.makeMap T_map_uint64_string none)) fun x2 => ∀ r1, h0 r1 = none → popO (SemP PG (x2.2 r1)) fun v3 => bindH (PH.set h0 r1 x2.1) fun h4 =>
 popO (SemP PG (Instr.build T_client_Client #[(0, v3)])) fun v5 =>
 ∀ r6, h4 r6 = none → bindH (PH.set h4 r6 (.cells (Value.cells v5) T_client_Client)) fun h7 =>
 R (Value.pointer (some ⟨r6, 0, none⟩)) h7
theorem client_New.call {h0 : PH} {R : Value → PH → Prop} (H : client_New  h0 R) : CallsH PG id_client_New #[] h0 R :=
  callsF_by (an0 4) 200 mix Tryz.func57 (by kernel_rfl) (by kernel_rfl) (by kernel_rfl) (by kernel_rfl) (by simp [Tryz.ntmps57]) (by kernel_rfl) H
def carrackref13_Both (t0 : Value) (t1 : Value) (t2 : Value) (h0 : PH) (R : Value → PH → Prop) : Prop :=
 ∀ r1, h0 r1 = none → bindH (PH.set h0 r1 (.cells (Value.cells t1) T_2_uint64)) fun h2 =>
 ∀ r3, h2 r3 = none → bindH (PH.set h2 r3 (.cells (Value.cells t2) T_2_uint64)) fun h4 =>
 popO (SemP PG (Instr.indexAt T_2_uint64 (Value.pointer (some ⟨r1, 0, none⟩)) (Value.int IntKind.i64 0))) fun v5 =>
 popO (SemE PG h4 (Instr.loadAt T_uint64 v5)) fun v6 =>
 popO (SemP PG (Instr.indexAt T_2_uint64 (Value.pointer (some ⟨r3, 0, none⟩)) (Value.int IntKind.i64 0))) fun v7 =>
 popO (SemE PG h4 (Instr.loadAt T_uint64 v7)) fun v8 =>
 popO (SemP PG (Instr.indexAt T_2_uint64 (Value.pointer (some ⟨r1, 0, none⟩)) (Value.int IntKind.i64 1))) fun v9 =>
 popO (SemE PG h4 (Instr.loadAt T_uint64 v9)) fun v10 =>
 popO (SemP PG (Instr.indexAt T_2_uint64 (Value.pointer (some ⟨r3, 0, none⟩)) (Value.int IntKind.i64 1))) fun v11 =>
 popO (SemE PG h4 (Instr.loadAt T_uint64 v11)) fun v12 =>
 CallsH PG id_carrackref13_New #[t0, (Value.int IntKind.i64 0), v6, v8] h4 fun v13 h14 =>
 SemE PG h14 (Instr.loadAt T_uint64 v11) = some v12 ∧ SemE PG h14 (Instr.loadAt T_uint64 v9) = some v10 ∧ (CallsH PG id_carrackref13_New #[t0, (Value.int IntKind.i64 1), v10, v12] h14 fun v15 h16 =>
 (popO (SemP PG (Instr.build T_2_p_carrackref13_Chain #[(0, v13), (1, v15)])) fun v17 =>
 popO (SemP PG (Instr.build T_carrackref13_Two #[(0, v17)])) fun v18 =>
 ∀ r19, h16 r19 = none → bindH (PH.set h16 r19 (.cells (Value.cells v18) T_carrackref13_Two)) fun h20 =>
 R (Value.pointer (some ⟨r19, 0, none⟩)) h20))
def carrackref13_Both.ann : Ann := { b := fun i => match i with | 1 => #[0, 0, 2, 0, 8, 31, 0, 0, 128, 0, 512, 2047, 4095, 8191, 16383, 32767] | _ => #[], ord := fun i => match i with | 1 => [0, 1, 2, 3, 4, 6, 7, 8, 9, 10, 5, 11, 12, 13, 14, 15] | _ => [], keep := fun i => match i with  | _ => [], n := 22 }
theorem carrackref13_Both.call {t0 : Value} {t1 : Value} {t2 : Value} {h0 : PH} {R : Value → PH → Prop} (H : carrackref13_Both t0 t1 t2 h0 R) : CallsH PG id_carrackref13_Both #[t0, t1, t2] h0 R :=
  callsF_by carrackref13_Both.ann 200 mix Tryz.func32 (by kernel_rfl) (by kernel_rfl) (by kernel_rfl) (by kernel_rfl) (by simp [Tryz.ntmps32]) (by kernel_rfl) H
def carrackref13_New (t0 : Value) (t1 : Value) (t2 : Value) (t3 : Value) (h0 : PH) (R : Value → PH → Prop) : Prop :=
 CallsH PG id_carrackref11_New #[t2] h0 fun v1 h2 =>
 popO (SemP PG (Instr.build T_carrackref12_Client #[])) fun v3 =>
 ∀ r4, h2 r4 = none → bindH (PH.set h2 r4 (.cells (Value.cells v3) T_carrackref12_Client)) fun h5 =>
 popO (SemA PG (Instr.buildSlice T_sl_sl_api_Note 1 #[(0, (Value.slice none 0 0))])) fun x7 => ∀ r6, h5 r6 = none → popO (SemP PG (x7.2 r6)) fun v8 => bindH (PH.set h5 r6 x7.1) fun h9 =>
 popO (SemP PG (Instr.build T_carrackref13_Chain #[(0, t0), (1, t1), (2, v1), (3, (Value.pointer (some ⟨r4, 0, none⟩))), (4, t3), (5, v8)])) fun v10 =>
 ∀ r11, h9 r11 = none → bindH (PH.set h9 r11 (.cells (Value.cells v10) T_carrackref13_Chain)) fun h12 =>
 R (Value.pointer (some ⟨r11, 0, none⟩)) h12
theorem carrackref13_New.call {t0 : Value} {t1 : Value} {t2 : Value} {t3 : Value} {h0 : PH} {R : Value → PH → Prop} (H : carrackref13_New t0 t1 t2 t3 h0 R) : CallsH PG id_carrackref13_New #[t0, t1, t2, t3] h0 R :=
  callsF_by (an0 19) 200 mix Tryz.func73 (by kernel_rfl) (by kernel_rfl) (by kernel_rfl) (by kernel_rfl) (by simp [Tryz.ntmps73]) (by kernel_rfl) H
def carrackref11_New (t0 : Value) (h0 : PH) (R : Value → PH → Prop) : Prop :=
 popO (SemA PG (Instr.buildSlice T_sl_sl_api_Pair 1 #[(0, (Value.slice none 0 0))])) fun x2 => ∀ r1, h0 r1 = none → popO (SemP PG (x2.2 r1)) fun v3 => bindH (PH.set h0 r1 x2.1) fun h4 =>
 popO (SemP PG (Instr.build T_carrackref11_Store #[(1, t0), (2, v3)])) fun v5 =>
 ∀ r6, h4 r6 = none → bindH (PH.set h4 r6 (.cells (Value.cells v5) T_carrackref11_Store)) fun h7 =>
 R (Value.pointer (some ⟨r6, 0, none⟩)) h7
theorem carrackref11_New.call {t0 : Value} {h0 : PH} {R : Value → PH → Prop} (H : carrackref11_New t0 h0 R) : CallsH PG id_carrackref11_New #[t0] h0 R :=
  callsF_by (an0 7) 200 mix Tryz.func138 (by kernel_rfl) (by kernel_rfl) (by kernel_rfl) (by kernel_rfl) (by simp [Tryz.ntmps138]) (by kernel_rfl) H
def carrackref01_New (h0 : PH) (R : Value → PH → Prop) : Prop :=
 CallsH PG id_carrackref01_Constants #[] h0 fun v1 h2 =>
 popO (SemP PG (Instr.extract v1 0)) fun v3 =>
 popO (SemP PG (Instr.extract v1 1)) fun v4 =>
 popO (SemA PG (Instr.makeMap T_map_string_string none)) fun x6 => ∀ r5, h2 r5 = none → popO (SemP PG (x6.2 r5)) fun v7 => bindH (PH.set h2 r5 x6.1) fun h8 =>
 popO (SemP PG (Instr.build T_carrackref01_Book #[(0, v3), (1, v4), (2, v7)])) fun v9 =>
 ∀ r10, h8 r10 = none → bindH (PH.set h8 r10 (.cells (Value.cells v9) T_carrackref01_Book)) fun h11 =>
 R (Value.pointer (some ⟨r10, 0, none⟩)) h11
theorem carrackref01_New.call {h0 : PH} {R : Value → PH → Prop} (H : carrackref01_New  h0 R) : CallsH PG id_carrackref01_New #[] h0 R :=
  callsF_by (an0 12) 200 mix Tryz.func33 (by kernel_rfl) (by kernel_rfl) (by kernel_rfl) (by kernel_rfl) (by simp [Tryz.ntmps33]) (by kernel_rfl) H
def carrackref01_Constants_k28 (R : Value → PH → Prop) (n3 : List Value → PH → Prop) (t2 : Value) (t3 : Value) (t4 : Value) (t5 : Value) (h0 : PH) : Prop :=
 popO (SemP PG (binOp BinOp.add T_int t5 (Value.int IntKind.i64 1))) fun v29 =>
 n3 [t2, t3, t4, v29] h0
def carrackref01_Constants_k27 (R : Value → PH → Prop) (n3 : List Value → PH → Prop) (t2 : Value) (t3 : Value) (t4 : Value) (t5 : Value) (h0 : PH) : Prop :=
 carrackref01_Constants_k28 R n3 t2 t3 t4 t5 h0
def carrackref01_Constants_b4 (R : Value → PH → Prop) (n3 : List Value → PH → Prop) (t2 : Value) (t3 : Value) (t4 : Value) (t5 : Value) (h0 : PH) : Prop :=
 popO (SemP PG (binOp BinOp.lss T_int t5 (Value.int IntKind.i64 64))) fun v5 =>
 condV v5
 (popO (SemP PG (Instr.indexAt T_sl_uint64 t4 t5)) fun v6 =>
 popO (SemE PG h0 (Instr.loadAt T_uint64 v6)) fun v7 =>
 CallsH PG id_carrackref01_root #[v7, (Value.bool true)] h0 fun v8 h9 =>
 popO (SemA PG (Instr.buildSlice T_sl_uint32 1 #[(0, v8)])) fun x11 => ∀ r10, h9 r10 = none → popO (SemP PG (x11.2 r10)) fun v12 => bindH (PH.set h9 r10 x11.1) fun h13 =>
 SemH PG (Builtin.append_ #[T_sl_uint32, T_sl_uint32] T_sl_uint32 #[t2, v12]) h13 fun v14 h15 =>
 popO (SemP PG (binOp BinOp.lss T_int t5 (Value.int IntKind.i64 8))) fun v16 =>
 condV v16
 (popO (SemP PG (Instr.indexAt T_sl_uint64 t4 t5)) fun v17 =>
 popO (SemE PG h15 (Instr.loadAt T_uint64 v17)) fun v18 =>
 CallsH PG id_carrackref01_root #[v18, (Value.bool false)] h15 fun v19 h20 =>
 popO (SemA PG (Instr.buildSlice T_sl_uint32 1 #[(0, v19)])) fun x22 => ∀ r21, h20 r21 = none → popO (SemP PG (x22.2 r21)) fun v23 => bindH (PH.set h20 r21 x22.1) fun h24 =>
 SemH PG (Builtin.append_ #[T_sl_uint32, T_sl_uint32] T_sl_uint32 #[t3, v23]) h24 fun v25 h26 =>
 carrackref01_Constants_k27 R n3 v14 v25 t4 t5 h26)
 (carrackref01_Constants_k27 R n3 v14 t3 t4 t5 h15))
 (R (Value.tuple #[t2, t3]) h0)
def carrackref01_Constants (h0 : PH) (R : Value → PH → Prop) : Prop :=
 CallsH PG id_carrackref01_primes #[(Value.int IntKind.i64 64)] h0 fun v1 h2 =>
 LoopL [2, 3, 4, 5] (fun n3 ρ h => carrackref01_Constants_b4 R n3 (ρ 2) (ρ 3) (ρ 4) (ρ 5) h) [(Value.slice none 0 0), (Value.slice none 0 0), v1, (Value.int IntKind.i64 0)] h2
theorem carrackref01_Constants.call {h0 : PH} {R : Value → PH → Prop} (H : carrackref01_Constants  h0 R) : CallsH PG id_carrackref01_Constants #[] h0 R :=
  callsF_by (an1 4 [2, 3, 4, 5] 31) 200 mix Tryz.func74 (by kernel_rfl) (by kernel_rfl) (by kernel_rfl) (by kernel_rfl) (by simp [Tryz.ntmps74]) (by kernel_rfl) H
def carrackref01_primes_k14 (R : Value → PH → Prop) (n1 : List Value → PH → Prop) (n5 : List Value → PH → Prop) (t0 : Value) (t3 : Value) (t4 : Value) (t5 : Value) (t6 : Value) (h0 : PH) : Prop :=
 popO (SemP PG (binOp BinOp.add T_int t6 (Value.int IntKind.i64 1))) fun v15 =>
 n5 [t0, t3, t4, t5, v15] h0
def carrackref01_primes_k13 (R : Value → PH → Prop) (n1 : List Value → PH → Prop) (n5 : List Value → PH → Prop) (t0 : Value) (t3 : Value) (t4 : Value) (t5 : Value) (t6 : Value) (h0 : PH) : Prop :=
 carrackref01_primes_k14 R n1 n5 t0 t3 t4 t5 t6 h0
def carrackref01_primes_k23 (R : Value → PH → Prop) (n1 : List Value → PH → Prop) (t0 : Value) (t3 : Value) (t4 : Value) (h0 : PH) : Prop :=
 popO (SemP PG (binOp BinOp.add T_uint64 t4 (Value.int IntKind.u64 1))) fun v24 =>
 n1 [t0, t3, v24] h0
def carrackref01_primes_k22 (R : Value → PH → Prop) (n1 : List Value → PH → Prop) (t0 : Value) (t3 : Value) (t4 : Value) (h0 : PH) : Prop :=
 carrackref01_primes_k23 R n1 t0 t3 t4 h0
def carrackref01_primes_b6 (R : Value → PH → Prop) (n1 : List Value → PH → Prop) (n5 : List Value → PH → Prop) (t0 : Value) (t3 : Value) (t4 : Value) (t5 : Value) (t6 : Value) (h0 : PH) : Prop :=
 popO (SemP PG (Builtin.len_ #[T_sl_uint64] T_int #[t3])) fun v7 =>
 popO (SemP PG (binOp BinOp.lss T_int t6 v7)) fun v8 =>
 condV v8
 (popO (SemP PG (Instr.indexAt T_sl_uint64 t3 t6)) fun v9 =>
 popO (SemE PG h0 (Instr.loadAt T_uint64 v9)) fun v10 =>
 popO (SemP PG (binOp BinOp.rem T_uint64 t4 v10)) fun v11 =>
 popO (SemE PG h0 (binS BinOp.eql T_uint64 (.tmp 24) (.const (Value.int IntKind.u64 0)) v11 (Value.int IntKind.u64 0))) fun v12 =>
 condV v12
 (carrackref01_primes_k13 R n1 n5 t0 t3 t4 (Value.bool false) t6 h0)
 (carrackref01_primes_k13 R n1 n5 t0 t3 t4 t5 t6 h0))
 (condV t5
 (popO (SemA PG (Instr.buildSlice T_sl_uint64 1 #[(0, t4)])) fun x17 => ∀ r16, h0 r16 = none → popO (SemP PG (x17.2 r16)) fun v18 => bindH (PH.set h0 r16 x17.1) fun h19 =>
 SemH PG (Builtin.append_ #[T_sl_uint64, T_sl_uint64] T_sl_uint64 #[t3, v18]) h19 fun v20 h21 =>
 carrackref01_primes_k22 R n1 t0 v20 t4 h21)
 (carrackref01_primes_k22 R n1 t0 t3 t4 h0))
def carrackref01_primes_b2 (R : Value → PH → Prop) (n1 : List Value → PH → Prop) (t0 : Value) (t3 : Value) (t4 : Value) (h0 : PH) : Prop :=
 popO (SemP PG (Builtin.len_ #[T_sl_uint64] T_int #[t3])) fun v3 =>
 popO (SemP PG (binOp BinOp.lss T_int v3 t0)) fun v4 =>
 condV v4
 (LoopL [0, 3, 4, 5, 6] (fun n5 ρ h => carrackref01_primes_b6 R n1 n5 (ρ 0) (ρ 3) (ρ 4) (ρ 5) (ρ 6) h) [t0, t3, t4, (Value.bool true), (Value.int IntKind.i64 0)] h0)
 (R t3 h0)
def carrackref01_primes (t0 : Value) (h0 : PH) (R : Value → PH → Prop) : Prop :=
 LoopL [0, 3, 4] (fun n1 ρ h => carrackref01_primes_b2 R n1 (ρ 0) (ρ 3) (ρ 4) h) [t0, (Value.slice none 0 0), (Value.int IntKind.u64 2)] h0
def carrackref01_primes.ann : Ann := { b := fun i => match i with  | _ => #[], ord := fun i => match i with  | _ => [], keep := fun i => match i with | 3 => [0, 3, 4] | 7 => [0, 3, 4, 5, 6] | _ => [], n := 32 }
theorem carrackref01_primes.call {t0 : Value} {h0 : PH} {R : Value → PH → Prop} (H : carrackref01_primes t0 h0 R) : CallsH PG id_carrackref01_primes #[t0] h0 R :=
  callsF_by carrackref01_primes.ann 200 mix Tryz.func139 (by kernel_rfl) (by kernel_rfl) (by kernel_rfl) (by kernel_rfl) (by simp [Tryz.ntmps139]) (by kernel_rfl) H
def carrackref01_root_k9 (R : Value → PH → Prop) (n1 : List Value → PH → Prop) (t0 : Value) (t1 : Value) (t5 : Value) (t6 : Value) (h0 : PH) : Prop :=
 n1 [t0, t1, t5, t6] h0
def carrackref01_root_b2 (R : Value → PH → Prop) (n1 : List Value → PH → Prop) (t0 : Value) (t1 : Value) (t5 : Value) (t6 : Value) (h0 : PH) : Prop :=
 popO (SemP PG (binOp BinOp.sub T_uint64 t6 t5)) fun v3 =>
 popO (SemP PG (binOp BinOp.gtr T_uint64 v3 (Value.int IntKind.u64 1))) fun v4 =>
 condV v4
 (popO (SemP PG (binOp BinOp.add T_uint64 t5 t6)) fun v5 =>
 popO (SemP PG (binOp BinOp.quo T_uint64 v5 (Value.int IntKind.u64 2))) fun v6 =>
 CallsH PG id_carrackref01_least #[v6, t0, t1] h0 fun v7 h8 =>
 condV v7
 (carrackref01_root_k9 R n1 t0 t1 v6 t6 h8)
 (carrackref01_root_k9 R n1 t0 t1 t5 v6 h8))
 (popO (SemP PG (convert T_uint64 T_uint32 t5)) fun v10 =>
 R v10 h0)
def carrackref01_root (t0 : Value) (t1 : Value) (h0 : PH) (R : Value → PH → Prop) : Prop :=
 LoopL [0, 1, 5, 6] (fun n1 ρ h => carrackref01_root_b2 R n1 (ρ 0) (ρ 1) (ρ 5) (ρ 6) h) [t0, t1, (Value.int IntKind.u64 0), (Value.int IntKind.u64 68719476736)] h0
theorem carrackref01_root.call {t0 : Value} {t1 : Value} {h0 : PH} {R : Value → PH → Prop} (H : carrackref01_root t0 t1 h0 R) : CallsH PG id_carrackref01_root #[t0, t1] h0 R :=
  callsF_by (an1 2 [0, 1, 5, 6] 24) 200 mix Tryz.func140 (by kernel_rfl) (by kernel_rfl) (by kernel_rfl) (by kernel_rfl) (by simp [Tryz.ntmps140]) (by kernel_rfl) H
def carrackref01_least_b7 (R : Value → PH → Prop) (n6 : List Value → PH → Prop) (t0 : Value) (t1 : Value) (t7 : Value) (t8 : Value) (t9 : Value) (h0 : PH) : Prop :=
 popO (SemP PG (binOp BinOp.lss T_int t9 t8)) fun v8 =>
 condV v8
 (CallsH PG id_carrackref01_multiply #[t7, t0] h0 fun v9 h10 =>
 popO (SemP PG (binOp BinOp.add T_int t9 (Value.int IntKind.i64 1))) fun v11 =>
 n6 [t0, t1, v9, t8, v11] h10)
 (popO (SemP PG (binOp BinOp.add T_int t8 (Value.int IntKind.i64 2))) fun v12 =>
 popO (SemA PG (Instr.makeSlice T_sl_uint64 v12 v12)) fun x14 => ∀ r13, h0 r13 = none → popO (SemP PG (x14.2 r13)) fun v15 => bindH (PH.set h0 r13 x14.1) fun h16 =>
 popO (SemP PG (binOp BinOp.add T_int t8 (Value.int IntKind.i64 1))) fun v17 =>
 popO (SemP PG (Instr.indexAt T_sl_uint64 v15 v17)) fun v18 =>
 SemH PG (storeS T_uint64 v18 t1) h16 fun v19 h20 =>
 CallsH PG id_carrackref01_above #[t7, v15] h20 fun v21 h22 =>
 popO (SemP PG (Op.unary UnOp.not v21)) fun v23 =>
 R v23 h22)
def carrackref01_least_k5 (R : Value → PH → Prop) (t0 : Value) (t1 : Value) (t7 : Value) (t8 : Value) (h0 : PH) : Prop :=
 LoopL [0, 1, 7, 8, 9] (fun n6 ρ h => carrackref01_least_b7 R n6 (ρ 0) (ρ 1) (ρ 7) (ρ 8) (ρ 9) h) [t0, t1, t7, t8, (Value.int IntKind.i64 0)] h0
def carrackref01_least (t0 : Value) (t1 : Value) (t2 : Value) (h0 : PH) (R : Value → PH → Prop) : Prop :=
 popO (SemA PG (Instr.buildSlice T_sl_uint64 1 #[(0, t0)])) fun x2 => ∀ r1, h0 r1 = none → popO (SemP PG (x2.2 r1)) fun v3 => bindH (PH.set h0 r1 x2.1) fun h4 =>
 condV t2
 (carrackref01_least_k5 R t0 t1 v3 (Value.int IntKind.i64 2) h4)
 (carrackref01_least_k5 R t0 t1 v3 (Value.int IntKind.i64 1) h4)
theorem carrackref01_least.call {t0 : Value} {t1 : Value} {t2 : Value} {h0 : PH} {R : Value → PH → Prop} (H : carrackref01_least t0 t1 t2 h0 R) : CallsH PG id_carrackref01_least #[t0, t1, t2] h0 R :=
  callsF_by (an1 6 [0, 1, 7, 8, 9] 34) 200 mix Tryz.func193 (by kernel_rfl) (by kernel_rfl) (by kernel_rfl) (by kernel_rfl) (by simp [Tryz.ntmps193]) (by kernel_rfl) H
def carrackref01_multiply_b12 (R : Value → PH → Prop) (n11 : List Value → PH → Prop) (t0 : Value) (t5 : Value) (t6 : Value) (t7 : Value) (t8 : Value) (h0 : PH) : Prop :=
 popO (SemP PG (Builtin.len_ #[T_sl_uint64] T_int #[t0])) fun v13 =>
 popO (SemP PG (binOp BinOp.lss T_int t8 v13)) fun v14 =>
 condV v14
 (popO (SemP PG (Instr.indexAt T_sl_uint64 t0 t8)) fun v15 =>
 popO (SemE PG h0 (Instr.loadAt T_uint64 v15)) fun v16 =>
 popO (SemP PG (binOp BinOp.mul T_uint64 v16 t5)) fun v17 =>
 CallsH PG id_carrackref01_add #[t7, t8, v17] h0 fun v18 h19 =>
 popO (SemP PG (binOp BinOp.add T_int t8 (Value.int IntKind.i64 1))) fun v20 =>
 popO (SemP PG (Instr.indexAt T_sl_uint64 t0 t8)) fun v21 =>
 popO (SemE PG h19 (Instr.loadAt T_uint64 v21)) fun v22 =>
 popO (SemP PG (binOp BinOp.mul T_uint64 v22 t6)) fun v23 =>
 CallsH PG id_carrackref01_add #[t7, v20, v23] h19 fun v24 h25 =>
 popO (SemP PG (binOp BinOp.add T_int t8 (Value.int IntKind.i64 1))) fun v26 =>
 n11 [t0, t5, t6, t7, v26] h25)
 (R t7 h0)
def carrackref01_multiply (t0 : Value) (t1 : Value) (h0 : PH) (R : Value → PH → Prop) : Prop :=
 CallsH PG id_carrackref01_spread #[t0] h0 fun v1 h2 =>
 popO (SemP PG (binOp BinOp.rem T_uint64 t1 (Value.int IntKind.u64 4294967296))) fun v3 =>
 popO (SemP PG (binOp BinOp.quo T_uint64 t1 (Value.int IntKind.u64 4294967296))) fun v4 =>
 popO (SemP PG (Builtin.len_ #[T_sl_uint64] T_int #[v1])) fun v5 =>
 popO (SemP PG (binOp BinOp.add T_int v5 (Value.int IntKind.i64 3))) fun v6 =>
 popO (SemA PG (Instr.makeSlice T_sl_uint64 v6 v6)) fun x8 => ∀ r7, h2 r7 = none → popO (SemP PG (x8.2 r7)) fun v9 => bindH (PH.set h2 r7 x8.1) fun h10 =>
 LoopL [0, 5, 6, 7, 8] (fun n11 ρ h => carrackref01_multiply_b12 R n11 (ρ 0) (ρ 5) (ρ 6) (ρ 7) (ρ 8) h) [v1, v3, v4, v9, (Value.int IntKind.i64 0)] h10
theorem carrackref01_multiply.call {t0 : Value} {t1 : Value} {h0 : PH} {R : Value → PH → Prop} (H : carrackref01_multiply t0 t1 h0 R) : CallsH PG id_carrackref01_multiply #[t0, t1] h0 R :=
  callsF_by (an1 5 [0, 5, 6, 7, 8] 45) 200 mix Tryz.func221 (by kernel_rfl) (by kernel_rfl) (by kernel_rfl) (by kernel_rfl) (by simp [Tryz.ntmps221]) (by kernel_rfl) H
def carrackref01_spread_b8 (R : Value → PH → Prop) (n7 : List Value → PH → Prop) (t0 : Value) (t3 : Value) (t4 : Value) (h0 : PH) : Prop :=
 popO (SemP PG (Builtin.len_ #[T_sl_uint64] T_int #[t0])) fun v9 =>
 popO (SemP PG (binOp BinOp.lss T_int t4 v9)) fun v10 =>
 condV v10
 (popO (SemP PG (Instr.indexAt T_sl_uint64 t0 t4)) fun v11 =>
 popO (SemE PG h0 (Instr.loadAt T_uint64 v11)) fun v12 =>
 CallsH PG id_carrackref01_add #[t3, t4, v12] h0 fun v13 h14 =>
 popO (SemP PG (binOp BinOp.add T_int t4 (Value.int IntKind.i64 1))) fun v15 =>
 n7 [t0, t3, v15] h14)
 (R t3 h0)
def carrackref01_spread (t0 : Value) (h0 : PH) (R : Value → PH → Prop) : Prop :=
 popO (SemP PG (Builtin.len_ #[T_sl_uint64] T_int #[t0])) fun v1 =>
 popO (SemP PG (binOp BinOp.add T_int v1 (Value.int IntKind.i64 1))) fun v2 =>
 popO (SemA PG (Instr.makeSlice T_sl_uint64 v2 v2)) fun x4 => ∀ r3, h0 r3 = none → popO (SemP PG (x4.2 r3)) fun v5 => bindH (PH.set h0 r3 x4.1) fun h6 =>
 LoopL [0, 3, 4] (fun n7 ρ h => carrackref01_spread_b8 R n7 (ρ 0) (ρ 3) (ρ 4) h) [t0, v5, (Value.int IntKind.i64 0)] h6
theorem carrackref01_spread.call {t0 : Value} {h0 : PH} {R : Value → PH → Prop} (H : carrackref01_spread t0 h0 R) : CallsH PG id_carrackref01_spread #[t0] h0 R :=
  callsF_by (an1 3 [0, 3, 4] 23) 200 mix Tryz.func236 (by kernel_rfl) (by kernel_rfl) (by kernel_rfl) (by kernel_rfl) (by simp [Tryz.ntmps236]) (by kernel_rfl) H
def carrackref01_add_b2 (R : Value → PH → Prop) (n1 : List Value → PH → Prop) (t0 : Value) (t1 : Value) (t2 : Value) (h0 : PH) : Prop :=
 popO (SemP PG (binOp BinOp.gtr T_uint64 t2 (Value.int IntKind.u64 0))) fun v3 =>
 gopV (yV v3) true (fun k6 => k6 t1 h0) h0 fun v4 h5 =>
 gopV (yV v3) true (fun k9 => k9 t0 h5) h5 fun v7 h8 =>
 gopV (yV v3) true (fun k12 => popO (SemP PG (Builtin.len_ #[T_sl_uint64] T_int #[v7])) fun v13 => k12 v13 h8) h8 fun v10 h11 =>
 gopV (yV v3) true (fun k16 => popO (SemP PG (binOp BinOp.lss T_int v4 v10)) fun v17 => k16 v17 h11) h11 fun v14 h15 =>
 popO (pickV v3 v14 (Value.bool false)) fun v18 =>
 condV v18
 (popO (SemP PG (binOp BinOp.rem T_uint64 t2 (Value.int IntKind.u64 4294967296))) fun v19 =>
 popO (SemP PG (Instr.indexAt T_sl_uint64 t0 t1)) fun v20 =>
 popO (SemE PG h15 (Instr.loadAt T_uint64 v20)) fun v21 =>
 popO (SemP PG (binOp BinOp.add T_uint64 v19 v21)) fun v22 =>
 popO (SemP PG (binOp BinOp.quo T_uint64 t2 (Value.int IntKind.u64 4294967296))) fun v23 =>
 popO (SemP PG (binOp BinOp.mul T_uint64 v23 (Value.int IntKind.u64 4294967296))) fun v24 =>
 popO (SemP PG (binOp BinOp.add T_uint64 v22 v24)) fun v25 =>
 popO (SemP PG (binOp BinOp.rem T_uint64 v25 (Value.int IntKind.u64 4294967296))) fun v26 =>
 popO (SemP PG (Instr.indexAt T_sl_uint64 t0 t1)) fun v27 =>
 SemH PG (storeS T_uint64 v27 v26) h15 fun v28 h29 =>
 popO (SemP PG (binOp BinOp.quo T_uint64 v25 (Value.int IntKind.u64 4294967296))) fun v30 =>
 popO (SemP PG (binOp BinOp.add T_int t1 (Value.int IntKind.i64 1))) fun v31 =>
 n1 [t0, v31, v30] h29)
 (R (Value.tuple #[]) h15)
def carrackref01_add (t0 : Value) (t1 : Value) (t2 : Value) (h0 : PH) (R : Value → PH → Prop) : Prop :=
 LoopL [0, 1, 2] (fun n1 ρ h => carrackref01_add_b2 R n1 (ρ 0) (ρ 1) (ρ 2) h) [t0, t1, t2] h0
theorem carrackref01_add.call {t0 : Value} {t1 : Value} {t2 : Value} {h0 : PH} {R : Value → PH → Prop} (H : carrackref01_add t0 t1 t2 h0 R) : CallsH PG id_carrackref01_add #[t0, t1, t2] h0 R :=
  callsF_by (an1 0 [0, 1, 2] 34) 200 mix Tryz.func237 (by kernel_rfl) (by kernel_rfl) (by kernel_rfl) (by kernel_rfl) (by simp [Tryz.ntmps237]) (by kernel_rfl) H
def carrackref01_above_b5 (R : Value → PH → Prop) (n4 : List Value → PH → Prop) (t0 : Value) (t1 : Value) (t5 : Value) (h0 : PH) : Prop :=
 popO (SemP PG (binOp BinOp.geq T_int t5 (Value.int IntKind.i64 0))) fun v6 =>
 condV v6
 (CallsH PG id_carrackref01_digit #[t0, t5] h0 fun v7 h8 =>
 CallsH PG id_carrackref01_digit #[t1, t5] h8 fun v9 h10 =>
 popO (SemE PG h10 (binS BinOp.neq T_uint64 (.tmp 23) (.tmp 24) v7 v9)) fun v11 =>
 condV v11
 (popO (SemP PG (binOp BinOp.gtr T_uint64 v7 v9)) fun v12 =>
 R v12 h10)
 (popO (SemP PG (binOp BinOp.sub T_int t5 (Value.int IntKind.i64 1))) fun v13 =>
 n4 [t0, t1, v13] h10))
 (R (Value.bool false) h0)
def carrackref01_above (t0 : Value) (t1 : Value) (h0 : PH) (R : Value → PH → Prop) : Prop :=
 popO (SemP PG (Builtin.len_ #[T_sl_uint64] T_int #[t0])) fun v1 =>
 popO (SemP PG (Builtin.len_ #[T_sl_uint64] T_int #[t1])) fun v2 =>
 popO (SemP PG (binOp BinOp.add T_int v1 v2)) fun v3 =>
 LoopL [0, 1, 5] (fun n4 ρ h => carrackref01_above_b5 R n4 (ρ 0) (ρ 1) (ρ 5) h) [t0, t1, v3] h0
theorem carrackref01_above.call {t0 : Value} {t1 : Value} {h0 : PH} {R : Value → PH → Prop} (H : carrackref01_above t0 t1 h0 R) : CallsH PG id_carrackref01_above #[t0, t1] h0 R :=
  callsF_by (an1 2 [0, 1, 5] 29) 200 mix Tryz.func222 (by kernel_rfl) (by kernel_rfl) (by kernel_rfl) (by kernel_rfl) (by simp [Tryz.ntmps222]) (by kernel_rfl) H
def carrackref01_digit (t0 : Value) (t1 : Value) (h0 : PH) (R : Value → PH → Prop) : Prop :=
 popO (SemP PG (Builtin.len_ #[T_sl_uint64] T_int #[t0])) fun v1 =>
 popO (SemP PG (binOp BinOp.lss T_int t1 v1)) fun v2 =>
 condV v2
 (popO (SemP PG (Instr.indexAt T_sl_uint64 t0 t1)) fun v3 =>
 popO (SemE PG h0 (Instr.loadAt T_uint64 v3)) fun v4 =>
 R v4 h0)
 (R (Value.int IntKind.u64 0) h0)
theorem carrackref01_digit.call {t0 : Value} {t1 : Value} {h0 : PH} {R : Value → PH → Prop} (H : carrackref01_digit t0 t1 h0 R) : CallsH PG id_carrackref01_digit #[t0, t1] h0 R :=
  callsF_by (an0 13) 200 mix Tryz.func238 (by kernel_rfl) (by kernel_rfl) (by kernel_rfl) (by kernel_rfl) (by simp [Tryz.ntmps238]) (by kernel_rfl) H
def carracklaw13_two_do_k62 (R : Value → PH → Prop) (t3 : Value) (t4 : Value) (t7 : Value) (t8 : Value) (t9 : Value) (h0 : PH) : Prop :=
 popO (SemP PG (Instr.fieldAt T_carrackref13_Act t3 0)) fun v63 =>
 popO (SemE PG h0 (Instr.loadAt T_int v63)) fun v64 =>
 popO (SemE PG h0 (binS BinOp.eql T_int (.tmp 58) (.const (Value.int IntKind.i64 0)) v64 (Value.int IntKind.i64 0))) fun v65 =>
 condV v65
 (popO (SemP PG (Instr.fieldAt T_carrackref13_Act t3 3)) fun v66 =>
 popO (SemE PG h0 (Instr.loadAt T_string v66)) fun v67 =>
 popO (SemP PG (Instr.fieldAt T_carrackref13_Act t3 2)) fun v68 =>
 popO (SemE PG h0 (Instr.loadAt T_uint64 v68)) fun v69 =>
 CallsH PG id_chain_Chain_Send #[t7, v67, v69] h0 fun v70 h71 =>
 popO (SemP PG (Instr.extract v70 0)) fun v72 =>
 popO (SemP PG (Instr.extract v70 1)) fun v73 =>
 ∀ r74, h71 r74 = none → bindH (PH.set h71 r74 (.cells (zcells PG T_api_Packet) T_api_Packet)) fun h75 =>
 SemH PG (storeS T_api_Packet (Value.pointer (some ⟨r74, 0, none⟩)) v72) h75 fun v76 h77 =>
 popO (SemE PG h77 (Instr.loadAt T_api_Packet (Value.pointer (some ⟨r74, 0, none⟩)))) fun v78 =>
 SemH PG (storeS T_api_Packet t4 v78) h77 fun v79 h80 =>
 popO (SemE PG h80 (Instr.loadAt T_api_Packet t4)) fun v81 =>
 R (Value.tuple #[v81, (Value.int IntKind.u64 0), v73]) h80)
 (popO (SemE PG h0 (binS BinOp.eql T_int (.tmp 58) (.const (Value.int IntKind.i64 1)) v64 (Value.int IntKind.i64 1))) fun v82 =>
 condV v82
 (popO (SemP PG (nilS t8)) fun v83 =>
 popO (SemP PG (Instr.fieldAt T_chain_Chain v83 0)) fun v84 =>
 popO (SemP PG (Instr.fieldAt T_chain_ledger v84 0)) fun v85 =>
 popO (SemE PG h0 (Instr.loadAt T_p_store_Store v85)) fun v86 =>
 popO (SemP PG (Instr.fieldAt T_carrackref13_Act t3 2)) fun v87 =>
 popO (SemE PG h0 (Instr.loadAt T_uint64 v87)) fun v88 =>
 CallsH PG id_store_Store_Root #[v86, v88] h0 fun v89 h90 =>
 (popO (SemP PG (Instr.extract v89 0)) fun v91 =>
 popO (SemP PG (Instr.extract v89 1)) fun v92 =>
 popO (SemE PG h90 (binS BinOp.neq T_api_Errno (.tmp 85) (.const (Value.int IntKind.i64 0)) v92 (Value.int IntKind.i64 0))) fun v93 =>
 condV v93
 (popO (SemP PG (Instr.build T_api_Packet #[])) fun v94 =>
 SemH PG (storeS T_api_Packet t4 v94) h90 fun v95 h96 =>
 popO (SemE PG h96 (Instr.loadAt T_api_Packet t4)) fun v97 =>
 R (Value.tuple #[v97, (Value.int IntKind.u64 0), v92]) h96)
 (popO (SemP PG (Instr.build T_api_Packet #[])) fun v98 =>
 popO (SemP PG (Instr.fieldAt T_carrackref13_Act t3 2)) fun v99 =>
 popO (SemE PG h90 (Instr.loadAt T_uint64 v99)) fun v100 =>
 CallsH PG id_chain_Chain_Update #[t7, v100, v91] h90 fun v101 h102 =>
 SemH PG (storeS T_api_Packet t4 v98) h102 fun v103 h104 =>
 popO (SemE PG h104 (Instr.loadAt T_api_Packet t4)) fun v105 =>
 R (Value.tuple #[v105, (Value.int IntKind.u64 0), v101]) h104)))
 (popO (SemE PG h0 (binS BinOp.eql T_int (.tmp 58) (.const (Value.int IntKind.i64 2)) v64 (Value.int IntKind.i64 2))) fun v106 =>
 condV v106
 (popO (SemP PG (Instr.build T_api_Packet #[])) fun v107 =>
 popO (SemP PG (Instr.fieldAt T_carrackref13_Act t3 4)) fun v108 =>
 popO (SemE PG h0 (Instr.loadAt T_api_Packet v108)) fun v109 =>
 popO (SemP PG (Instr.fieldAt T_carrackref13_Act t3 2)) fun v110 =>
 popO (SemE PG h0 (Instr.loadAt T_uint64 v110)) fun v111 =>
 CallsH PG id_chain_Chain_Recv #[t7, v109, t9, v111] h0 fun v112 h113 =>
 SemH PG (storeS T_api_Packet t4 v107) h113 fun v114 h115 =>
 popO (SemE PG h115 (Instr.loadAt T_api_Packet t4)) fun v116 =>
 R (Value.tuple #[v116, (Value.int IntKind.u64 0), v112]) h115)
 (popO (SemE PG h0 (binS BinOp.eql T_int (.tmp 58) (.const (Value.int IntKind.i64 3)) v64 (Value.int IntKind.i64 3))) fun v117 =>
 condV v117
 (popO (SemP PG (Instr.build T_api_Packet #[])) fun v118 =>
 popO (SemP PG (Instr.fieldAt T_carrackref13_Act t3 4)) fun v119 =>
 popO (SemE PG h0 (Instr.loadAt T_api_Packet v119)) fun v120 =>
 popO (SemP PG (Instr.fieldAt T_carrackref13_Act t3 2)) fun v121 =>
 popO (SemE PG h0 (Instr.loadAt T_uint64 v121)) fun v122 =>
 CallsH PG id_chain_Chain_Ack #[t7, v120, t9, v122] h0 fun v123 h124 =>
 SemH PG (storeS T_api_Packet t4 v118) h124 fun v125 h126 =>
 popO (SemE PG h126 (Instr.loadAt T_api_Packet t4)) fun v127 =>
 R (Value.tuple #[v127, (Value.int IntKind.u64 0), v123]) h126)
 (popO (SemE PG h0 (binS BinOp.eql T_int (.tmp 58) (.const (Value.int IntKind.i64 4)) v64 (Value.int IntKind.i64 4))) fun v128 =>
 condV v128
 (popO (SemP PG (Instr.build T_api_Packet #[])) fun v129 =>
 popO (SemP PG (Instr.fieldAt T_carrackref13_Act t3 4)) fun v130 =>
 popO (SemE PG h0 (Instr.loadAt T_api_Packet v130)) fun v131 =>
 popO (SemP PG (Instr.fieldAt T_carrackref13_Act t3 2)) fun v132 =>
 popO (SemE PG h0 (Instr.loadAt T_uint64 v132)) fun v133 =>
 CallsH PG id_chain_Chain_Timeout #[t7, v131, t9, v133] h0 fun v134 h135 =>
 SemH PG (storeS T_api_Packet t4 v129) h135 fun v136 h137 =>
 popO (SemE PG h137 (Instr.loadAt T_api_Packet t4)) fun v138 =>
 R (Value.tuple #[v138, (Value.int IntKind.u64 0), v134]) h137)
 (popO (SemE PG h0 (binS BinOp.eql T_int (.tmp 58) (.const (Value.int IntKind.i64 5)) v64 (Value.int IntKind.i64 5))) fun v139 =>
 condV v139
 (CallsH PG id_chain_Chain_Commit #[t7] h0 fun v140 h141 =>
 popO (SemP PG (Instr.extract v140 0)) fun v142 =>
 popO (SemP PG (Instr.extract v140 1)) fun v143 =>
 popO (SemP PG (Instr.build T_api_Packet #[])) fun v144 =>
 SemH PG (storeS T_api_Packet t4 v144) h141 fun v145 h146 =>
 popO (SemE PG h146 (Instr.loadAt T_api_Packet t4)) fun v147 =>
 R (Value.tuple #[v147, v142, v143]) h146)
 (popO (SemP PG (Instr.build T_api_Packet #[])) fun v148 =>
 SemH PG (storeS T_api_Packet t4 v148) h0 fun v149 h150 =>
 popO (SemE PG h150 (Instr.loadAt T_api_Packet t4)) fun v151 =>
 R (Value.tuple #[v151, (Value.int IntKind.u64 0), (Value.int IntKind.i64 0)]) h150))))))
def carracklaw13_two_do (t0 : Value) (t1 : Value) (h0 : PH) (R : Value → PH → Prop) : Prop :=
 ∀ r1, h0 r1 = none → bindH (PH.set h0 r1 (.cells (Value.cells t1) T_carrackref13_Act)) fun h2 =>
 ∀ r3, h2 r3 = none → bindH (PH.set h2 r3 (.cells (zcells PG T_api_Packet) T_api_Packet)) fun h4 =>
 popO (SemP PG (Instr.fieldAt T_carrackref13_Act (Value.pointer (some ⟨r1, 0, none⟩)) 1)) fun v5 =>
 popO (SemE PG h4 (Instr.loadAt T_int v5)) fun v6 =>
 popO (SemP PG (nilS t0)) fun v7 =>
 popO (SemP PG (Instr.fieldAt T_carracklaw13_two v7 0)) fun v8 =>
 popO (SemP PG (Instr.fieldAt T_carrackref13_Act (Value.pointer (some ⟨r1, 0, none⟩)) 1)) fun v9 =>
 popO (SemE PG h4 (Instr.loadAt T_int v9)) fun v10 =>
 popO (SemP PG (nilS t0)) fun v11 =>
 popO (SemP PG (Instr.fieldAt T_carracklaw13_two v11 0)) fun v12 =>
 CallsH PG id_carrackref13_Side #[v6] h4 fun v13 h14 =>
 SemE PG h14 (Instr.loadAt T_int v9) = some v10 ∧ (popO (SemP PG (Instr.indexAt T_2_p_chain_Chain v8 v13)) fun v15 =>
 popO (SemE PG h14 (Instr.loadAt T_p_chain_Chain v15)) fun v16 =>
 CallsH PG id_carrackref13_Side #[v10] h14 fun v17 h18 =>
 SemE PG h18 (Instr.loadAt T_p_chain_Chain v15) = some v16 ∧ (popO (SemP PG (binOp BinOp.sub T_int (Value.int IntKind.i64 1) v17)) fun v19 =>
 popO (SemP PG (Instr.indexAt T_2_p_chain_Chain v12 v19)) fun v20 =>
 popO (SemE PG h18 (Instr.loadAt T_p_chain_Chain v20)) fun v21 =>
 popO (SemP PG (Instr.fieldAt T_carrackref13_Act (Value.pointer (some ⟨r1, 0, none⟩)) 3)) fun v22 =>
 popO (SemE PG h18 (Instr.loadAt T_string v22)) fun v23 =>
 popO (SemP PG (Instr.fieldAt T_carrackref13_Act (Value.pointer (some ⟨r1, 0, none⟩)) 5)) fun v24 =>
 popO (SemE PG h18 (Instr.loadAt T_bool v24)) fun v25 =>
 popO (SemP PG (Op.unary UnOp.not v25)) fun v26 =>
 gopV (yV v26) true (fun k29 => popO (SemP PG (Instr.fieldAt T_carrackref13_Act (Value.pointer (some ⟨r1, 0, none⟩)) 0)) fun v30 => k29 v30 h18) h18 fun v27 h28 =>
 gopV (yV v26) true (fun k33 => popO (SemE PG h28 (Instr.loadAt T_int v27)) fun v34 => k33 v34 h28) h28 fun v31 h32 =>
 gopV (yV v26) true (fun k37 => popO (SemP PG (binOp BinOp.geq T_int v31 (Value.int IntKind.i64 2))) fun v38 => k37 v38 h32) h32 fun v35 h36 =>
 popO (pickV v26 v35 (Value.bool false)) fun v39 =>
 gopV (yV v39) true (fun k42 => popO (SemP PG (Instr.fieldAt T_carrackref13_Act (Value.pointer (some ⟨r1, 0, none⟩)) 0)) fun v43 => k42 v43 h36) h36 fun v40 h41 =>
 gopV (yV v39) true (fun k46 => popO (SemE PG h41 (Instr.loadAt T_int v40)) fun v47 => k46 v47 h41) h41 fun v44 h45 =>
 gopV (yV v39) true (fun k50 => popO (SemP PG (binOp BinOp.leq T_int v44 (Value.int IntKind.i64 4))) fun v51 => k50 v51 h45) h45 fun v48 h49 =>
 popO (pickV v39 v48 (Value.bool false)) fun v52 =>
 condV v52
 (popO (SemE PG h49 (Instr.loadAt T_carrackref13_Act (Value.pointer (some ⟨r1, 0, none⟩)))) fun v53 =>
 popO (SemP PG (Instr.fieldAt T_carrackref13_Act (Value.pointer (some ⟨r1, 0, none⟩)) 2)) fun v54 =>
 popO (SemE PG h49 (Instr.loadAt T_uint64 v54)) fun v55 =>
 CallsH PG id_carrackref13_Act_Key #[v53] h49 fun v56 h57 =>
 SemE PG h57 (Instr.loadAt T_uint64 v54) = some v55 ∧ (CallsH PG id_chain_Chain_Prove #[v21, v56, v55] h57 fun v58 h59 =>
 (popO (SemP PG (Instr.extract v58 0)) fun v60 =>
 popO (SemP PG (Instr.extract v58 1)) fun v61 =>
 carracklaw13_two_do_k62 R (Value.pointer (some ⟨r1, 0, none⟩)) (Value.pointer (some ⟨r3, 0, none⟩)) v16 v21 v60 h59)))
 (carracklaw13_two_do_k62 R (Value.pointer (some ⟨r1, 0, none⟩)) (Value.pointer (some ⟨r3, 0, none⟩)) v16 v21 v23 h49)))
def carracklaw13_two_do.ann : Ann := { b := fun i => match i with | 1 => #[0, 0, 2, 6, 1, 17, 63, 127, 0, 0, 512, 1550, 3598, 256, 8448, 32526, 65294, 3839, 262143] | 4 => #[0, 0, 2, 0, 8, 31, 63, 127, 127, 255] | 10 => #[0, 1, 3, 7, 15, 0, 32, 127, 255, 511, 511, 1023, 4095] | _ => #[], ord := fun i => match i with | 1 => [0, 1, 2, 4, 5, 8, 9, 10, 13, 14, 3, 6, 7, 11, 12, 15, 16, 17, 18] | 4 => [0, 1, 3, 4, 2, 5, 6, 7, 8, 9] | 10 => [0, 1, 2, 3, 4, 5, 6, 7, 8, 9, 10, 11, 12] | _ => [], keep := fun i => match i with  | _ => [], n := 136 }
theorem carracklaw13_two_do.call {t0 : Value} {t1 : Value} {h0 : PH} {R : Value → PH → Prop} (H : carracklaw13_two_do t0 t1 h0 R) : CallsH PG id_carracklaw13_two_do #[t0, t1] h0 R :=
  callsF_by carracklaw13_two_do.ann 200 mix Tryz.func12 (by kernel_rfl) (by kernel_rfl) (by kernel_rfl) (by kernel_rfl) (by simp [Tryz.ntmps12]) (by kernel_rfl) H
def chain_Chain_Commit_k34 (R : Value → PH → Prop) (t4 : Value) (t5 : Value) (h0 : PH) : Prop :=
 R (Value.tuple #[t4, t5]) h0
def chain_Chain_Commit (t0 : Value) (h0 : PH) (R : Value → PH → Prop) : Prop :=
 popO (SemP PG (nilS t0)) fun v1 =>
 popO (SemP PG (Instr.fieldAt T_chain_Chain v1 0)) fun v2 =>
 popO (SemP PG (Instr.fieldAt T_chain_ledger v2 0)) fun v3 =>
 popO (SemE PG h0 (Instr.loadAt T_p_store_Store v3)) fun v4 =>
 CallsH PG id_store_Store_Commit #[v4] h0 fun v5 h6 =>
 popO (SemP PG (Instr.extract v5 0)) fun v7 =>
 popO (SemP PG (Instr.extract v5 1)) fun v8 =>
 popO (SemE PG h6 (binS BinOp.eql T_api_Errno (.tmp 15) (.const (Value.int IntKind.i64 0)) v8 (Value.int IntKind.i64 0))) fun v9 =>
 condV v9
 (popO (SemP PG (nilS t0)) fun v10 =>
 popO (SemP PG (Instr.fieldAt T_chain_Chain v10 0)) fun v11 =>
 popO (SemP PG (Instr.fieldAt T_chain_ledger v11 2)) fun v12 =>
 popO (SemE PG h6 (Instr.loadAt T_sl_sl_api_Note v12)) fun v13 =>
 popO (SemP PG (nilS t0)) fun v14 =>
 popO (SemP PG (Instr.fieldAt T_chain_Chain v14 0)) fun v15 =>
 popO (SemP PG (Instr.fieldAt T_chain_ledger v15 3)) fun v16 =>
 popO (SemE PG h6 (Instr.loadAt T_sl_api_Note v16)) fun v17 =>
 popO (SemA PG (Instr.buildSlice T_sl_sl_api_Note 1 #[(0, v17)])) fun x19 => ∀ r18, h6 r18 = none → popO (SemP PG (x19.2 r18)) fun v20 => bindH (PH.set h6 r18 x19.1) fun h21 =>
 SemH PG (Builtin.append_ #[T_sl_sl_api_Note, T_sl_sl_api_Note] T_sl_sl_api_Note #[v13, v20]) h21 fun v22 h23 =>
 (popO (SemP PG (nilS t0)) fun v24 =>
 popO (SemP PG (Instr.fieldAt T_chain_Chain v24 0)) fun v25 =>
 popO (SemP PG (Instr.fieldAt T_chain_ledger v25 2)) fun v26 =>
 SemH PG (storeS T_sl_sl_api_Note v26 v22) h23 fun v27 h28 =>
 (popO (SemP PG (nilS t0)) fun v29 =>
 popO (SemP PG (Instr.fieldAt T_chain_Chain v29 0)) fun v30 =>
 popO (SemP PG (Instr.fieldAt T_chain_ledger v30 3)) fun v31 =>
 SemH PG (storeS T_sl_api_Note v31 (Value.slice none 0 0)) h28 fun v32 h33 =>
 chain_Chain_Commit_k34 R v7 v8 h33)))
 (chain_Chain_Commit_k34 R v7 v8 h6)
def chain_Chain_Commit.ann : Ann := { b := fun i => match i with | 3 => #[0, 0, 2, 6, 14, 30, 0, 64, 192, 448, 960, 1984, 4094, 8191, 16383, 32767, 65535] | _ => #[], ord := fun i => match i with | 3 => [0, 1, 2, 3, 4, 5, 6, 7, 8, 9, 10, 11, 12, 13, 14, 15, 16] | _ => [], keep := fun i => match i with  | _ => [], n := 39 }
theorem chain_Chain_Commit.call {t0 : Value} {h0 : PH} {R : Value → PH → Prop} (H : chain_Chain_Commit t0 h0 R) : CallsH PG id_chain_Chain_Commit #[t0] h0 R :=
  callsF_by chain_Chain_Commit.ann 200 mix Tryz.func16 (by kernel_rfl) (by kernel_rfl) (by kernel_rfl) (by kernel_rfl) (by simp [Tryz.ntmps16]) (by kernel_rfl) H
def store_Store_Commit_b16 (R : Value → PH → Prop) (n15 : List Value → PH → Prop) (t0 : Value) (t4 : Value) (t24 : Value) (h0 : PH) : Prop :=
 SemH PG (Instr.next t24 false T_) h0 fun v17 h18 =>
 popO (SemP PG (Instr.extract v17 0)) fun v19 =>
 condV v19
 (SemH PG (Instr.entry t24) h18 fun v20 h21 =>
 popO (SemP PG (Instr.extract v20 0)) fun v22 =>
 popO (SemP PG (Instr.extract v20 1)) fun v23 =>
 popO (SemP PG (Instr.build T_api_Pair #[(0, v22), (1, v23)])) fun v24 =>
 popO (SemA PG (Instr.buildSlice T_sl_api_Pair 1 #[(0, v24)])) fun x26 => ∀ r25, h21 r25 = none → popO (SemP PG (x26.2 r25)) fun v27 => bindH (PH.set h21 r25 x26.1) fun h28 =>
 SemH PG (Builtin.append_ #[T_sl_api_Pair, T_sl_api_Pair] T_sl_api_Pair #[t4, v27]) h28 fun v29 h30 =>
 n15 [t0, v29, t24] h30)
 (CallsH PG id_slices_SortFunc_sl_api_Pair_api_Pair #[t4, (Value.func (Fn.func id_store_Store_Commit_1) #[] #[])] h18 fun v31 h32 =>
 popO (SemP PG (nilS t0)) fun v33 =>
 popO (SemP PG (Instr.fieldAt T_store_Store v33 1)) fun v34 =>
 popO (SemE PG h32 (Instr.loadAt T_sl_store_block v34)) fun v35 =>
 popO (SemP PG (Instr.build T_store_sorted #[(0, t4)])) fun v36 =>
 CallsH PG id_merkle_Root #[t4] h32 fun v37 h38 =>
 SemE PG h38 (Instr.loadAt T_sl_store_block v34) = some v35 ∧ (popO (SemP PG (Instr.build T_store_block #[(0, v36), (1, v37)])) fun v39 =>
 popO (SemA PG (Instr.buildSlice T_sl_store_block 1 #[(0, v39)])) fun x41 => ∀ r40, h38 r40 = none → popO (SemP PG (x41.2 r40)) fun v42 => bindH (PH.set h38 r40 x41.1) fun h43 =>
 SemH PG (Builtin.append_ #[T_sl_store_block, T_sl_store_block] T_sl_store_block #[v35, v42]) h43 fun v44 h45 =>
 (popO (SemP PG (nilS t0)) fun v46 =>
 popO (SemP PG (Instr.fieldAt T_store_Store v46 1)) fun v47 =>
 SemH PG (storeS T_sl_store_block v47 v44) h45 fun v48 h49 =>
 (popO (SemP PG (nilS t0)) fun v50 =>
 popO (SemP PG (Instr.fieldAt T_store_Store v50 2)) fun v51 =>
 popO (SemE PG h49 (Instr.loadAt T_uint64 v51)) fun v52 =>
 popO (SemP PG (binOp BinOp.add T_uint64 v52 (Value.int IntKind.u64 1))) fun v53 =>
 popO (SemP PG (nilS t0)) fun v54 =>
 popO (SemP PG (Instr.fieldAt T_store_Store v54 2)) fun v55 =>
 SemH PG (storeS T_uint64 v55 v53) h49 fun v56 h57 =>
 popO (SemP PG (nilS t0)) fun v58 =>
 popO (SemP PG (Instr.fieldAt T_store_Store v58 2)) fun v59 =>
 popO (SemE PG h57 (Instr.loadAt T_uint64 v59)) fun v60 =>
 R (Value.tuple #[v60, (Value.int IntKind.i64 0)]) h57))))
def store_Store_Commit (t0 : Value) (h0 : PH) (R : Value → PH → Prop) : Prop :=
 popO (SemP PG (nilS t0)) fun v1 =>
 popO (SemP PG (Instr.fieldAt T_store_Store v1 2)) fun v2 =>
 popO (SemE PG h0 (Instr.loadAt T_uint64 v2)) fun v3 =>
 popO (SemE PG h0 (binS BinOp.eql T_uint64 (.tmp 11) (.const (Value.int IntKind.u64 18446744073709551615)) v3 (Value.int IntKind.u64 18446744073709551615))) fun v4 =>
 condV v4
 (R (Value.tuple #[(Value.int IntKind.u64 0), (Value.int IntKind.i64 12)]) h0)
 (popO (SemP PG (nilS t0)) fun v5 =>
 popO (SemP PG (Instr.fieldAt T_store_Store v5 1)) fun v6 =>
 popO (SemE PG h0 (Instr.loadAt T_sl_store_block v6)) fun v7 =>
 popO (SemP PG (Builtin.len_ #[T_sl_store_block] T_int #[v7])) fun v8 =>
 popO (SemP PG (binOp BinOp.geq T_int v8 (Value.int IntKind.i64 4096))) fun v9 =>
 condV v9
 (R (Value.tuple #[(Value.int IntKind.u64 0), (Value.int IntKind.i64 2)]) h0)
 (popO (SemP PG (nilS t0)) fun v10 =>
 popO (SemP PG (Instr.fieldAt T_store_Store v10 0)) fun v11 =>
 popO (SemE PG h0 (Instr.loadAt T_map_string_string v11)) fun v12 =>
 SemH PG (Instr.range T_map_string_string v12) h0 fun v13 h14 =>
 LoopL [0, 4, 24] (fun n15 ρ h => store_Store_Commit_b16 R n15 (ρ 0) (ρ 4) (ρ 24) h) [t0, (Value.slice none 0 0), v13] h14))
def store_Store_Commit.ann : Ann := { b := fun i => match i with | 11 => #[0, 0, 2, 6, 14, 0, 32, 0, 128, 480, 992, 2046, 4095, 8191, 16383] | _ => #[], ord := fun i => match i with | 11 => [0, 1, 2, 3, 4, 5, 6, 7, 8, 9, 10, 11, 12, 13, 14] | _ => [], keep := fun i => match i with | 7 => [0, 4, 24] | _ => [], n := 63 }
theorem store_Store_Commit.call {t0 : Value} {h0 : PH} {R : Value → PH → Prop} (H : store_Store_Commit t0 h0 R) : CallsH PG id_store_Store_Commit #[t0] h0 R :=
  callsF_by store_Store_Commit.ann 200 mix Tryz.func47 (by kernel_rfl) (by kernel_rfl) (by kernel_rfl) (by kernel_rfl) (by simp [Tryz.ntmps47]) (by kernel_rfl) H
def store_Store_Commit_1 (t0 : Value) (t1 : Value) (h0 : PH) (R : Value → PH → Prop) : Prop :=
 ∀ r1, h0 r1 = none → bindH (PH.set h0 r1 (.cells (Value.cells t0) T_api_Pair)) fun h2 =>
 ∀ r3, h2 r3 = none → bindH (PH.set h2 r3 (.cells (Value.cells t1) T_api_Pair)) fun h4 =>
 popO (SemP PG (Instr.fieldAt T_api_Pair (Value.pointer (some ⟨r1, 0, none⟩)) 0)) fun v5 =>
 popO (SemE PG h4 (Instr.loadAt T_string v5)) fun v6 =>
 popO (SemP PG (Instr.fieldAt T_api_Pair (Value.pointer (some ⟨r3, 0, none⟩)) 0)) fun v7 =>
 popO (SemE PG h4 (Instr.loadAt T_string v7)) fun v8 =>
 CallsH PG id_cmp_Compare_string #[v6, v8] h4 fun v9 h10 =>
 R v9 h10
theorem store_Store_Commit_1.call {t0 : Value} {t1 : Value} {h0 : PH} {R : Value → PH → Prop} (H : store_Store_Commit_1 t0 t1 h0 R) : CallsH PG id_store_Store_Commit_1 #[t0, t1] h0 R :=
  callsF_by (an0 10) 200 mix Tryz.func110 (by kernel_rfl) (by kernel_rfl) (by kernel_rfl) (by kernel_rfl) (by simp [Tryz.ntmps110]) (by kernel_rfl) H
def cmp_Compare_string (t0 : Value) (t1 : Value) (h0 : PH) (R : Value → PH → Prop) : Prop :=
 CallsH PG id_cmp_isNaN_string #[t0] h0 fun v1 h2 =>
 CallsH PG id_cmp_isNaN_string #[t1] h2 fun v3 h4 =>
 condV v1
 (condV v3
 (R (Value.int IntKind.i64 0) h4)
 (R (Value.int IntKind.i64 (-1)) h4))
 (condV v3
 (R (Value.int IntKind.i64 1) h4)
 (popO (SemP PG (binOp BinOp.lss T_string t0 t1)) fun v5 =>
 condV v5
 (R (Value.int IntKind.i64 (-1)) h4)
 (popO (SemP PG (binOp BinOp.gtr T_string t0 t1)) fun v6 =>
 condV v6
 (R (Value.int IntKind.i64 1) h4)
 (R (Value.int IntKind.i64 0) h4))))
theorem cmp_Compare_string.call {t0 : Value} {t1 : Value} {h0 : PH} {R : Value → PH → Prop} (H : cmp_Compare_string t0 t1 h0 R) : CallsH PG id_cmp_Compare_string #[t0, t1] h0 R :=
  callsF_by (an0 20) 200 mix Tryz.func60 (by kernel_rfl) (by kernel_rfl) (by kernel_rfl) (by kernel_rfl) (by simp [Tryz.ntmps60]) (by kernel_rfl) H
def cmp_isNaN_string (t0 : Value) (h0 : PH) (R : Value → PH → Prop) : Prop :=
 popO (SemE PG h0 (binS BinOp.neq T_string (.tmp 3) (.tmp 4) t0 t0)) fun v1 =>
 R v1 h0
theorem cmp_isNaN_string.call {t0 : Value} {h0 : PH} {R : Value → PH → Prop} (H : cmp_isNaN_string t0 h0 R) : CallsH PG id_cmp_isNaN_string #[t0] h0 R :=
  callsF_by (an0 6) 200 mix Tryz.func132 (by kernel_rfl) (by kernel_rfl) (by kernel_rfl) (by kernel_rfl) (by simp [Tryz.ntmps132]) (by kernel_rfl) H
def store_Store_Root (t0 : Value) (t1 : Value) (h0 : PH) (R : Value → PH → Prop) : Prop :=
 CallsH PG id_store_Store_at #[t0, t1] h0 fun v1 h2 =>
 popO (SemP PG (Instr.extract v1 0)) fun v3 =>
 popO (SemP PG (Instr.extract v1 1)) fun v4 =>
 ∀ r5, h2 r5 = none → bindH (PH.set h2 r5 (.cells (zcells PG T_store_block) T_store_block)) fun h6 =>
 SemH PG (storeS T_store_block (Value.pointer (some ⟨r5, 0, none⟩)) v3) h6 fun v7 h8 =>
 popO (SemP PG (Instr.fieldAt T_store_block (Value.pointer (some ⟨r5, 0, none⟩)) 1)) fun v9 =>
 popO (SemE PG h8 (Instr.loadAt T_string v9)) fun v10 =>
 R (Value.tuple #[v10, v4]) h8
theorem store_Store_Root.call {t0 : Value} {t1 : Value} {h0 : PH} {R : Value → PH → Prop} (H : store_Store_Root t0 t1 h0 R) : CallsH PG id_store_Store_Root #[t0, t1] h0 R :=
  callsF_by (an0 17) 200 mix Tryz.func17 (by kernel_rfl) (by kernel_rfl) (by kernel_rfl) (by kernel_rfl) (by simp [Tryz.ntmps17]) (by kernel_rfl) H
def store_Store_at (t0 : Value) (t1 : Value) (h0 : PH) (R : Value → PH → Prop) : Prop :=
 ∀ r1, h0 r1 = none → bindH (PH.set h0 r1 (.cells (zcells PG T_store_block) T_store_block)) fun h2 =>
 popO (SemP PG (nilS t0)) fun v3 =>
 popO (SemP PG (Instr.fieldAt T_store_Store v3 2)) fun v4 =>
 popO (SemE PG h2 (Instr.loadAt T_uint64 v4)) fun v5 =>
 popO (SemP PG (binOp BinOp.sub T_uint64 v5 t1)) fun v6 =>
 popO (SemP PG (nilS t0)) fun v7 =>
 popO (SemP PG (Instr.fieldAt T_store_Store v7 2)) fun v8 =>
 popO (SemE PG h2 (Instr.loadAt T_uint64 v8)) fun v9 =>
 popO (SemP PG (binOp BinOp.gtr T_uint64 t1 v9)) fun v10 =>
 gopV (yV v10) false (fun k13 => k13 v6 h2) h2 fun v11 h12 =>
 gopV (yV v10) false (fun k16 => k16 t0 h12) h12 fun v14 h15 =>
 gopV (yV v10) false (fun k19 => popO (SemP PG (nilS v14)) fun v20 => k19 v20 h15) h15 fun v17 h18 =>
 gopV (yV v10) false (fun k23 => popO (SemP PG (Instr.fieldAt T_store_Store v17 1)) fun v24 => k23 v24 h18) h18 fun v21 h22 =>
 gopV (yV v10) false (fun k27 => popO (SemE PG h22 (Instr.loadAt T_sl_store_block v21)) fun v28 => k27 v28 h22) h22 fun v25 h26 =>
 gopV (yV v10) false (fun k31 => popO (SemP PG (Builtin.len_ #[T_sl_store_block] T_int #[v25])) fun v32 => k31 v32 h26) h26 fun v29 h30 =>
 gopV (yV v10) false (fun k35 => popO (SemP PG (convert T_int T_uint64 v29)) fun v36 => k35 v36 h30) h30 fun v33 h34 =>
 gopV (yV v10) false (fun k39 => popO (SemP PG (binOp BinOp.geq T_uint64 v11 v33)) fun v40 => k39 v40 h34) h34 fun v37 h38 =>
 popO (pickV v10 (Value.bool true) v37) fun v41 =>
 condV v41
 (popO (SemP PG (Instr.build T_store_block #[])) fun v42 =>
 SemH PG (storeS T_store_block (Value.pointer (some ⟨r1, 0, none⟩)) v42) h38 fun v43 h44 =>
 popO (SemE PG h44 (Instr.loadAt T_store_block (Value.pointer (some ⟨r1, 0, none⟩)))) fun v45 =>
 R (Value.tuple #[v45, (Value.int IntKind.i64 3)]) h44)
 (popO (SemP PG (nilS t0)) fun v46 =>
 popO (SemP PG (Instr.fieldAt T_store_Store v46 1)) fun v47 =>
 popO (SemE PG h38 (Instr.loadAt T_sl_store_block v47)) fun v48 =>
 popO (SemP PG (nilS t0)) fun v49 =>
 popO (SemP PG (Instr.fieldAt T_store_Store v49 1)) fun v50 =>
 popO (SemE PG h38 (Instr.loadAt T_sl_store_block v50)) fun v51 =>
 popO (SemP PG (Builtin.len_ #[T_sl_store_block] T_int #[v51])) fun v52 =>
 popO (SemP PG (convert T_int T_uint64 v52)) fun v53 =>
 popO (SemP PG (binOp BinOp.sub T_uint64 v53 (Value.int IntKind.u64 1))) fun v54 =>
 popO (SemP PG (binOp BinOp.sub T_uint64 v54 v6)) fun v55 =>
 popO (SemP PG (Instr.indexAt T_sl_store_block v48 v55)) fun v56 =>
 popO (SemE PG h38 (Instr.loadAt T_store_block v56)) fun v57 =>
 SemH PG (storeS T_store_block (Value.pointer (some ⟨r1, 0, none⟩)) v57) h38 fun v58 h59 =>
 (popO (SemE PG h59 (Instr.loadAt T_store_block (Value.pointer (some ⟨r1, 0, none⟩)))) fun v60 =>
 R (Value.tuple #[v60, (Value.int IntKind.i64 0)]) h59))
def store_Store_at.ann : Ann := { b := fun i => match i with | 4 => #[0, 1, 3, 7, 0, 16, 48, 112, 240, 496, 1008, 0, 4080, 8191, 16383, 32767, 65535] | _ => #[], ord := fun i => match i with | 4 => [0, 1, 2, 3, 4, 5, 6, 7, 8, 9, 10, 11, 12, 13, 14, 15, 16] | _ => [], keep := fun i => match i with  | _ => [], n := 45 }
theorem store_Store_at.call {t0 : Value} {t1 : Value} {h0 : PH} {R : Value → PH → Prop} (H : store_Store_at t0 t1 h0 R) : CallsH PG id_store_Store_at #[t0, t1] h0 R :=
  callsF_by store_Store_at.ann 200 mix Tryz.func48 (by kernel_rfl) (by kernel_rfl) (by kernel_rfl) (by kernel_rfl) (by simp [Tryz.ntmps48]) (by kernel_rfl) H
def chain_Chain_Prove_k25 (R : Value → PH → Prop) (t9 : Value) (t10 : Value) (h0 : PH) : Prop :=
 popO (SemE PG h0 (binS BinOp.neq T_api_Errno (.tmp 38) (.const (Value.int IntKind.i64 0)) t9 (Value.int IntKind.i64 0))) fun v26 =>
 condV v26
 (R (Value.tuple #[(Value.string { data := #[] }), t9]) h0)
 (popO (SemE PG h0 (Instr.loadAt T_api_Proof t10)) fun v27 =>
 CallsH PG id_proof_Bytes #[v27] h0 fun v28 h29 =>
 popO (SemP PG (Instr.extract v28 0)) fun v30 =>
 popO (SemP PG (Instr.extract v28 1)) fun v31 =>
 R (Value.tuple #[v30, v31]) h29)
def chain_Chain_Prove (t0 : Value) (t1 : Value) (t2 : Value) (h0 : PH) (R : Value → PH → Prop) : Prop :=
 popO (SemP PG (nilS t0)) fun v1 =>
 popO (SemP PG (Instr.fieldAt T_chain_Chain v1 0)) fun v2 =>
 popO (SemP PG (Instr.fieldAt T_chain_ledger v2 0)) fun v3 =>
 popO (SemE PG h0 (Instr.loadAt T_p_store_Store v3)) fun v4 =>
 CallsH PG id_store_Store_At #[v4, t2] h0 fun v5 h6 =>
 popO (SemP PG (Instr.extract v5 0)) fun v7 =>
 popO (SemP PG (Instr.extract v5 1)) fun v8 =>
 popO (SemE PG h6 (binS BinOp.neq T_api_Errno (.tmp 21) (.const (Value.int IntKind.i64 0)) v8 (Value.int IntKind.i64 0))) fun v9 =>
 condV v9
 (R (Value.tuple #[(Value.string { data := #[] }), v8]) h6)
 (CallsH PG id_proof_Present #[v7, t1] h6 fun v10 h11 =>
 popO (SemP PG (Instr.extract v10 0)) fun v12 =>
 popO (SemP PG (Instr.extract v10 1)) fun v13 =>
 ∀ r14, h11 r14 = none → bindH (PH.set h11 r14 (.cells (zcells PG T_api_Proof) T_api_Proof)) fun h15 =>
 SemH PG (storeS T_api_Proof (Value.pointer (some ⟨r14, 0, none⟩)) v12) h15 fun v16 h17 =>
 popO (SemE PG h17 (binS BinOp.neq T_api_Errno (.tmp 30) (.const (Value.int IntKind.i64 0)) v13 (Value.int IntKind.i64 0))) fun v18 =>
 condV v18
 (CallsH PG id_proof_Absent #[v7, t1] h17 fun v19 h20 =>
 popO (SemP PG (Instr.extract v19 0)) fun v21 =>
 popO (SemP PG (Instr.extract v19 1)) fun v22 =>
 SemH PG (storeS T_api_Proof (Value.pointer (some ⟨r14, 0, none⟩)) v21) h20 fun v23 h24 =>
 chain_Chain_Prove_k25 R v22 (Value.pointer (some ⟨r14, 0, none⟩)) h24)
 (chain_Chain_Prove_k25 R v13 (Value.pointer (some ⟨r14, 0, none⟩)) h17))
theorem chain_Chain_Prove.call {t0 : Value} {t1 : Value} {t2 : Value} {h0 : PH} {R : Value → PH → Prop} (H : chain_Chain_Prove t0 t1 t2 h0 R) : CallsH PG id_chain_Chain_Prove #[t0, t1, t2] h0 R :=
  callsF_by (an0 45) 200 mix Tryz.func18 (by kernel_rfl) (by kernel_rfl) (by kernel_rfl) (by kernel_rfl) (by simp [Tryz.ntmps18]) (by kernel_rfl) H
def store_Store_At (t0 : Value) (t1 : Value) (h0 : PH) (R : Value → PH → Prop) : Prop :=
 CallsH PG id_store_Store_at #[t0, t1] h0 fun v1 h2 =>
 popO (SemP PG (Instr.extract v1 0)) fun v3 =>
 popO (SemP PG (Instr.extract v1 1)) fun v4 =>
 ∀ r5, h2 r5 = none → bindH (PH.set h2 r5 (.cells (zcells PG T_store_block) T_store_block)) fun h6 =>
 SemH PG (storeS T_store_block (Value.pointer (some ⟨r5, 0, none⟩)) v3) h6 fun v7 h8 =>
 popO (SemP PG (Instr.fieldAt T_store_block (Value.pointer (some ⟨r5, 0, none⟩)) 0)) fun v9 =>
 popO (SemE PG h8 (Instr.loadAt T_store_sorted v9)) fun v10 =>
 CallsH PG id_store_sorted_pairs #[v10] h8 fun v11 h12 =>
 R (Value.tuple #[v11, v4]) h12
theorem store_Store_At.call {t0 : Value} {t1 : Value} {h0 : PH} {R : Value → PH → Prop} (H : store_Store_At t0 t1 h0 R) : CallsH PG id_store_Store_At #[t0, t1] h0 R :=
  callsF_by (an0 18) 200 mix Tryz.func49 (by kernel_rfl) (by kernel_rfl) (by kernel_rfl) (by kernel_rfl) (by simp [Tryz.ntmps49]) (by kernel_rfl) H
def store_sorted_pairs (t0 : Value) (h0 : PH) (R : Value → PH → Prop) : Prop :=
 ∀ r1, h0 r1 = none → bindH (PH.set h0 r1 (.cells (Value.cells t0) T_store_sorted)) fun h2 =>
 popO (SemP PG (Instr.fieldAt T_store_sorted (Value.pointer (some ⟨r1, 0, none⟩)) 0)) fun v3 =>
 popO (SemE PG h2 (Instr.loadAt T_sl_api_Pair v3)) fun v4 =>
 CallsH PG id_slices_Clone_sl_api_Pair_api_Pair #[v4] h2 fun v5 h6 =>
 R v5 h6
theorem store_sorted_pairs.call {t0 : Value} {h0 : PH} {R : Value → PH → Prop} (H : store_sorted_pairs t0 h0 R) : CallsH PG id_store_sorted_pairs #[t0] h0 R :=
  callsF_by (an0 6) 200 mix Tryz.func111 (by kernel_rfl) (by kernel_rfl) (by kernel_rfl) (by kernel_rfl) (by simp [Tryz.ntmps111]) (by kernel_rfl) H
def slices_Clone_sl_api_Pair_api_Pair (t0 : Value) (h0 : PH) (R : Value → PH → Prop) : Prop :=
 popO (SemE PG h0 (binS BinOp.eql T_sl_api_Pair (.tmp 3) (.const (Value.slice none 0 0)) t0 (Value.slice none 0 0))) fun v1 =>
 condV v1
 (R (Value.slice none 0 0) h0)
 (popO (SemA PG (Instr.buildSlice T_sl_api_Pair 0 #[])) fun x3 => ∀ r2, h0 r2 = none → popO (SemP PG (x3.2 r2)) fun v4 => bindH (PH.set h0 r2 x3.1) fun h5 =>
 SemH PG (Builtin.append_ #[T_sl_api_Pair, T_sl_api_Pair] T_sl_api_Pair #[v4, t0]) h5 fun v6 h7 =>
 R v6 h7)
theorem slices_Clone_sl_api_Pair_api_Pair.call {t0 : Value} {h0 : PH} {R : Value → PH → Prop} (H : slices_Clone_sl_api_Pair_api_Pair t0 h0 R) : CallsH PG id_slices_Clone_sl_api_Pair_api_Pair #[t0] h0 R :=
  callsF_by (an0 8) 200 mix Tryz.func159 (by kernel_rfl) (by kernel_rfl) (by kernel_rfl) (by kernel_rfl) (by simp [Tryz.ntmps159]) (by kernel_rfl) H
def proof_Present (t0 : Value) (t1 : Value) (h0 : PH) (R : Value → PH → Prop) : Prop :=
 ∀ r1, h0 r1 = none → bindH (PH.set h0 r1 (.cells (zcells PG T_api_Proof) T_api_Proof)) fun h2 =>
 CallsH PG id_proof_find #[t0, t1] h2 fun v3 h4 =>
 popO (SemP PG (Instr.extract v3 0)) fun v5 =>
 popO (SemP PG (Instr.extract v3 1)) fun v6 =>
 popO (SemP PG (Op.unary UnOp.not v6)) fun v7 =>
 condV v7
 (popO (SemP PG (Instr.build T_api_Proof #[])) fun v8 =>
 SemH PG (storeS T_api_Proof (Value.pointer (some ⟨r1, 0, none⟩)) v8) h4 fun v9 h10 =>
 popO (SemE PG h10 (Instr.loadAt T_api_Proof (Value.pointer (some ⟨r1, 0, none⟩)))) fun v11 =>
 R (Value.tuple #[v11, (Value.int IntKind.i64 3)]) h10)
 (popO (SemA PG (Instr.buildSlice T_sl_int 1 #[(0, v5)])) fun x13 => ∀ r12, h4 r12 = none → popO (SemP PG (x13.2 r12)) fun v14 => bindH (PH.set h4 r12 x13.1) fun h15 =>
 CallsH PG id_proof_leaves #[t0, v14] h15 fun v16 h17 =>
 popO (SemP PG (Instr.build T_api_Proof #[(1, v16)])) fun v18 =>
 SemH PG (storeS T_api_Proof (Value.pointer (some ⟨r1, 0, none⟩)) v18) h17 fun v19 h20 =>
 popO (SemE PG h20 (Instr.loadAt T_api_Proof (Value.pointer (some ⟨r1, 0, none⟩)))) fun v21 =>
 R (Value.tuple #[v21, (Value.int IntKind.i64 0)]) h20)
theorem proof_Present.call {t0 : Value} {t1 : Value} {h0 : PH} {R : Value → PH → Prop} (H : proof_Present t0 t1 h0 R) : CallsH PG id_proof_Present #[t0, t1] h0 R :=
  callsF_by (an0 22) 200 mix Tryz.func50 (by kernel_rfl) (by kernel_rfl) (by kernel_rfl) (by kernel_rfl) (by simp [Tryz.ntmps50]) (by kernel_rfl) H
def proof_find (t0 : Value) (t1 : Value) (h0 : PH) (R : Value → PH → Prop) : Prop :=
 CallsH PG id_slices_BinarySearchFunc_sl_api_Pair_api_Pair_string #[t0, t1, (Value.func (Fn.func id_proof_find_1) #[] #[])] h0 fun v1 h2 =>
 popO (SemP PG (Instr.extract v1 0)) fun v3 =>
 popO (SemP PG (Instr.extract v1 1)) fun v4 =>
 R (Value.tuple #[v3, v4]) h2
theorem proof_find.call {t0 : Value} {t1 : Value} {h0 : PH} {R : Value → PH → Prop} (H : proof_find t0 t1 h0 R) : CallsH PG id_proof_find #[t0, t1] h0 R :=
  callsF_by (an0 11) 200 mix Tryz.func112 (by kernel_rfl) (by kernel_rfl) (by kernel_rfl) (by kernel_rfl) (by simp [Tryz.ntmps112]) (by kernel_rfl) H
def slices_BinarySearchFunc_sl_api_Pair_api_Pair_string_k15 (R : Value → PH → Prop) (n2 : List Value → PH → Prop) (t0 : Value) (t1 : Value) (t2 : Value) (t8 : Value) (t9 : Value) (t10 : Value) (h0 : PH) : Prop :=
 n2 [t0, t1, t2, t8, t9, t10] h0
def slices_BinarySearchFunc_sl_api_Pair_api_Pair_string_b3 (R : Value → PH → Prop) (n2 : List Value → PH → Prop) (t0 : Value) (t1 : Value) (t2 : Value) (t8 : Value) (t9 : Value) (t10 : Value) (h0 : PH) : Prop :=
 popO (SemP PG (binOp BinOp.lss T_int t9 t10)) fun v4 =>
 condV v4
 (popO (SemP PG (binOp BinOp.add T_int t9 t10)) fun v5 =>
 popO (SemP PG (convert T_int T_uint v5)) fun v6 =>
 popO (SemP PG (binOp BinOp.shr T_uint v6 (Value.int IntKind.u64 1))) fun v7 =>
 popO (SemP PG (convert T_uint T_int v7)) fun v8 =>
 popO (SemP PG (Instr.indexAt T_sl_api_Pair t0 v8)) fun v9 =>
 popO (SemE PG h0 (Instr.loadAt T_api_Pair v9)) fun v10 =>
 callC PG t2 #[v10, t1] h0 fun v11 h12 =>
 popO (SemP PG (binOp BinOp.lss T_int v11 (Value.int IntKind.i64 0))) fun v13 =>
 condV v13
 (popO (SemP PG (binOp BinOp.add T_int v8 (Value.int IntKind.i64 1))) fun v14 =>
 slices_BinarySearchFunc_sl_api_Pair_api_Pair_string_k15 R n2 t0 t1 t2 t8 v14 t10 h12)
 (slices_BinarySearchFunc_sl_api_Pair_api_Pair_string_k15 R n2 t0 t1 t2 t8 t9 v8 h12))
 (popO (SemP PG (binOp BinOp.lss T_int t9 t8)) fun v16 =>
 gopV (yV v16) true (fun k19 => k19 t2 h0) h0 fun v17 h18 =>
 gopV (yV v16) true (fun k22 => k22 t0 h18) h18 fun v20 h21 =>
 gopV (yV v16) true (fun k25 => k25 t9 h21) h21 fun v23 h24 =>
 gopV (yV v16) true (fun k28 => popO (SemP PG (Instr.indexAt T_sl_api_Pair v20 v23)) fun v29 => k28 v29 h24) h24 fun v26 h27 =>
 gopV (yV v16) true (fun k32 => popO (SemE PG h27 (Instr.loadAt T_api_Pair v26)) fun v33 => k32 v33 h27) h27 fun v30 h31 =>
 gopV (yV v16) true (fun k36 => k36 t1 h31) h31 fun v34 h35 =>
 gopV (yV v16) true (fun k39 => callC PG v17 #[v30, v34] h35 fun v40 h41 => k39 v40 h41) h35 fun v37 h38 =>
 gopV (yV v16) true (fun k44 => popO (SemE PG h38 (binS BinOp.eql T_int (.tmp 46) (.const (Value.int IntKind.i64 0)) v37 (Value.int IntKind.i64 0))) fun v45 => k44 v45 h38) h38 fun v42 h43 =>
 popO (pickV v16 v42 (Value.bool false)) fun v46 =>
 R (Value.tuple #[t9, v46]) h43)
def slices_BinarySearchFunc_sl_api_Pair_api_Pair_string (t0 : Value) (t1 : Value) (t2 : Value) (h0 : PH) (R : Value → PH → Prop) : Prop :=
 popO (SemP PG (Builtin.len_ #[T_sl_api_Pair] T_int #[t0])) fun v1 =>
 LoopL [0, 1, 2, 8, 9, 10] (fun n2 ρ h => slices_BinarySearchFunc_sl_api_Pair_api_Pair_string_b3 R n2 (ρ 0) (ρ 1) (ρ 2) (ρ 8) (ρ 9) (ρ 10) h) [t0, t1, t2, v1, (Value.int IntKind.i64 0), v1] h0
theorem slices_BinarySearchFunc_sl_api_Pair_api_Pair_string.call {t0 : Value} {t1 : Value} {t2 : Value} {h0 : PH} {R : Value → PH → Prop} (H : slices_BinarySearchFunc_sl_api_Pair_api_Pair_string t0 t1 t2 h0 R) : CallsH PG id_slices_BinarySearchFunc_sl_api_Pair_api_Pair_string #[t0, t1, t2] h0 R :=
  callsF_by (an1 3 [0, 1, 2, 8, 9, 10] 49) 200 mix Tryz.func160 (by kernel_rfl) (by kernel_rfl) (by kernel_rfl) (by kernel_rfl) (by simp [Tryz.ntmps160]) (by kernel_rfl) H
def proof_find_1 (t0 : Value) (t1 : Value) (h0 : PH) (R : Value → PH → Prop) : Prop :=
 ∀ r1, h0 r1 = none → bindH (PH.set h0 r1 (.cells (Value.cells t0) T_api_Pair)) fun h2 =>
 popO (SemP PG (Instr.fieldAt T_api_Pair (Value.pointer (some ⟨r1, 0, none⟩)) 0)) fun v3 =>
 popO (SemE PG h2 (Instr.loadAt T_string v3)) fun v4 =>
 CallsH PG id_cmp_Compare_string #[v4, t1] h2 fun v5 h6 =>
 R v5 h6
theorem proof_find_1.call {t0 : Value} {t1 : Value} {h0 : PH} {R : Value → PH → Prop} (H : proof_find_1 t0 t1 h0 R) : CallsH PG id_proof_find_1 #[t0, t1] h0 R :=
  callsF_by (an0 9) 200 mix Tryz.func161 (by kernel_rfl) (by kernel_rfl) (by kernel_rfl) (by kernel_rfl) (by simp [Tryz.ntmps161]) (by kernel_rfl) H
def proof_leaves_b3 (R : Value → PH → Prop) (n2 : List Value → PH → Prop) (t0 : Value) (t5 : Value) (t8 : Value) (t9 : Value) (t10 : Value) (h0 : PH) : Prop :=
 popO (SemP PG (binOp BinOp.lss T_int t10 t9)) fun v4 =>
 condV v4
 (popO (SemP PG (Instr.indexAt T_sl_int t8 t10)) fun v5 =>
 popO (SemE PG h0 (Instr.loadAt T_int v5)) fun v6 =>
 popO (SemP PG (Builtin.len_ #[T_sl_api_Pair] T_int #[t0])) fun v7 =>
 popO (SemP PG (Instr.indexAt T_sl_api_Pair t0 v6)) fun v8 =>
 popO (SemE PG h0 (Instr.loadAt T_api_Pair v8)) fun v9 =>
 CallsH PG id_merkle_Path #[t0, v6] h0 fun v10 h11 =>
 SemE PG h11 (Instr.loadAt T_api_Pair v8) = some v9 ∧ (popO (SemP PG (Instr.build T_api_Leaf #[(0, v6), (1, v7), (2, v9), (3, v10)])) fun v12 =>
 popO (SemA PG (Instr.buildSlice T_sl_api_Leaf 1 #[(0, v12)])) fun x14 => ∀ r13, h11 r13 = none → popO (SemP PG (x14.2 r13)) fun v15 => bindH (PH.set h11 r13 x14.1) fun h16 =>
 SemH PG (Builtin.append_ #[T_sl_api_Leaf, T_sl_api_Leaf] T_sl_api_Leaf #[t5, v15]) h16 fun v17 h18 =>
 (popO (SemP PG (binOp BinOp.add T_int t10 (Value.int IntKind.i64 1))) fun v19 =>
 n2 [t0, v17, t8, t9, v19] h18)))
 (R t5 h0)
def proof_leaves (t0 : Value) (t1 : Value) (h0 : PH) (R : Value → PH → Prop) : Prop :=
 popO (SemP PG (Builtin.len_ #[T_sl_int] T_int #[t1])) fun v1 =>
 LoopL [0, 5, 8, 9, 10] (fun n2 ρ h => proof_leaves_b3 R n2 (ρ 0) (ρ 5) (ρ 8) (ρ 9) (ρ 10) h) [t0, (Value.slice none 0 0), t1, v1, (Value.int IntKind.i64 0)] h0
def proof_leaves.ann : Ann := { b := fun i => match i with | 5 => #[0, 0, 0, 4, 0, 0, 48, 112, 0, 0, 768, 2046, 4094, 8191, 16383] | _ => #[], ord := fun i => match i with | 5 => [0, 1, 2, 3, 4, 5, 6, 7, 8, 9, 10, 11, 12, 13, 14] | _ => [], keep := fun i => match i with | 3 => [0, 5, 8, 9, 10] | _ => [], n := 30 }
theorem proof_leaves.call {t0 : Value} {t1 : Value} {h0 : PH} {R : Value → PH → Prop} (H : proof_leaves t0 t1 h0 R) : CallsH PG id_proof_leaves #[t0, t1] h0 R :=
  callsF_by proof_leaves.ann 200 mix Tryz.func113 (by kernel_rfl) (by kernel_rfl) (by kernel_rfl) (by kernel_rfl) (by simp [Tryz.ntmps113]) (by kernel_rfl) H
def merkle_Path (t0 : Value) (t1 : Value) (h0 : PH) (R : Value → PH → Prop) : Prop :=
 popO (SemP PG (binOp BinOp.lss T_int t1 (Value.int IntKind.i64 0))) fun v1 =>
 gopV (yV v1) false (fun k4 => k4 t1 h0) h0 fun v2 h3 =>
 gopV (yV v1) false (fun k7 => k7 t0 h3) h3 fun v5 h6 =>
 gopV (yV v1) false (fun k10 => popO (SemP PG (Builtin.len_ #[T_sl_api_Pair] T_int #[v5])) fun v11 => k10 v11 h6) h6 fun v8 h9 =>
 gopV (yV v1) false (fun k14 => popO (SemP PG (binOp BinOp.geq T_int v2 v8)) fun v15 => k14 v15 h9) h9 fun v12 h13 =>
 popO (pickV v1 (Value.bool true) v12) fun v16 =>
 condV v16
 (R (Value.slice none 0 0) h13)
 (∀ r17, h13 r17 = none → bindH (PH.set h13 r17 (.cells (zcells PG T_sl_string) T_sl_string)) fun h18 =>
 ∀ r19, h18 r19 = none → bindH (PH.set h18 r19 (.cells (zcells PG T_func_sl_api_Pair_int) T_func_sl_api_Pair_int)) fun h20 =>
 popO (SemP PG (Instr.makeFunc (Fn.func id_merkle_Path_1) #[] #[(Value.pointer (some ⟨r19, 0, none⟩)), (Value.pointer (some ⟨r17, 0, none⟩))])) fun v21 =>
 SemH PG (storeS T_func_sl_api_Pair_int (Value.pointer (some ⟨r19, 0, none⟩)) v21) h20 fun v22 h23 =>
 popO (SemE PG h23 (Instr.loadAt T_func_sl_api_Pair_int (Value.pointer (some ⟨r19, 0, none⟩)))) fun v24 =>
 callC PG v24 #[t0, t1] h23 fun v25 h26 =>
 popO (SemE PG h26 (Instr.loadAt T_sl_string (Value.pointer (some ⟨r17, 0, none⟩)))) fun v27 =>
 R v27 h26)
theorem merkle_Path.call {t0 : Value} {t1 : Value} {h0 : PH} {R : Value → PH → Prop} (H : merkle_Path t0 t1 h0 R) : CallsH PG id_merkle_Path #[t0, t1] h0 R :=
  callsF_by (an0 21) 200 mix Tryz.func162 (by kernel_rfl) (by kernel_rfl) (by kernel_rfl) (by kernel_rfl) (by simp [Tryz.ntmps162]) (by kernel_rfl) H
def merkle_Path_1 (t0 : Value) (t1 : Value) (t2 : Value) (t3 : Value) (h0 : PH) (R : Value → PH → Prop) : Prop :=
 popO (SemP PG (Builtin.len_ #[T_sl_api_Pair] T_int #[t0])) fun v1 =>
 popO (SemE PG h0 (binS BinOp.eql T_int (.tmp 8) (.const (Value.int IntKind.i64 1)) v1 (Value.int IntKind.i64 1))) fun v2 =>
 condV v2
 (R (Value.tuple #[]) h0)
 (popO (SemP PG (Builtin.len_ #[T_sl_api_Pair] T_int #[t0])) fun v3 =>
 CallsH PG id_merkle_left #[v3] h0 fun v4 h5 =>
 popO (SemP PG (binOp BinOp.lss T_int t1 v4)) fun v6 =>
 condV v6
 (popO (SemE PG h5 (Instr.loadAt T_func_sl_api_Pair_int t2)) fun v7 =>
 popO (SemP PG (Instr.sliceAt T_sl_api_Pair t0 none (some v4) none)) fun v8 =>
 callC PG v7 #[v8, t1] h5 fun v9 h10 =>
 (popO (SemE PG h10 (Instr.loadAt T_sl_string t3)) fun v11 =>
 popO (SemP PG (Instr.sliceAt T_sl_api_Pair t0 (some v4) none none)) fun v12 =>
 CallsH PG id_merkle_digest #[v12] h10 fun v13 h14 =>
 SemE PG h14 (Instr.loadAt T_sl_string t3) = some v11 ∧ (popO (SemA PG (Instr.buildSlice T_sl_string 1 #[(0, v13)])) fun x16 => ∀ r15, h14 r15 = none → popO (SemP PG (x16.2 r15)) fun v17 => bindH (PH.set h14 r15 x16.1) fun h18 =>
 SemH PG (Builtin.append_ #[T_sl_string, T_sl_string] T_sl_string #[v11, v17]) h18 fun v19 h20 =>
 (SemH PG (storeS T_sl_string t3 v19) h20 fun v21 h22 =>
 (R (Value.tuple #[]) h22)))))
 (popO (SemE PG h5 (Instr.loadAt T_func_sl_api_Pair_int t2)) fun v23 =>
 popO (SemP PG (Instr.sliceAt T_sl_api_Pair t0 (some v4) none none)) fun v24 =>
 popO (SemP PG (binOp BinOp.sub T_int t1 v4)) fun v25 =>
 callC PG v23 #[v24, v25] h5 fun v26 h27 =>
 (popO (SemE PG h27 (Instr.loadAt T_sl_string t3)) fun v28 =>
 popO (SemP PG (Instr.sliceAt T_sl_api_Pair t0 none (some v4) none)) fun v29 =>
 CallsH PG id_merkle_digest #[v29] h27 fun v30 h31 =>
 SemE PG h31 (Instr.loadAt T_sl_string t3) = some v28 ∧ (popO (SemA PG (Instr.buildSlice T_sl_string 1 #[(0, v30)])) fun x33 => ∀ r32, h31 r32 = none → popO (SemP PG (x33.2 r32)) fun v34 => bindH (PH.set h31 r32 x33.1) fun h35 =>
 SemH PG (Builtin.append_ #[T_sl_string, T_sl_string] T_sl_string #[v28, v34]) h35 fun v36 h37 =>
 (SemH PG (storeS T_sl_string t3 v36) h37 fun v38 h39 =>
 (R (Value.tuple #[]) h39))))))
def merkle_Path_1.ann : Ann := { b := fun i => match i with | 3 => #[0, 0, 0, 6, 0, 31] | 4 => #[0, 0, 0, 6, 14, 30, 63, 127] | 5 => #[0, 0, 0, 6, 0, 0, 48, 127] | 6 => #[0, 0, 0, 6, 14, 30, 63, 127] | _ => #[], ord := fun i => match i with | 3 => [0, 1, 2, 3, 4, 5] | 4 => [0, 1, 2, 3, 4, 5, 6, 7] | 5 => [0, 1, 2, 3, 4, 5, 6, 7] | 6 => [0, 1, 2, 3, 4, 5, 6, 7] | _ => [], keep := fun i => match i with  | _ => [], n := 44 }
theorem merkle_Path_1.call {t0 : Value} {t1 : Value} {t2 : Value} {t3 : Value} {h0 : PH} {R : Value → PH → Prop} (H : merkle_Path_1 t0 t1 t2 t3 h0 R) : CallsH PG id_merkle_Path_1 #[t0, t1, t2, t3] h0 R :=
  callsF_by merkle_Path_1.ann 200 mix Tryz.func207 (by kernel_rfl) (by kernel_rfl) (by kernel_rfl) (by kernel_rfl) (by simp [Tryz.ntmps207]) (by kernel_rfl) H
def proof_Absent_k37 (R : Value → PH → Prop) (t4 : Value) (t8 : Value) (h0 : PH) : Prop :=
 popO (SemE PG h0 (Instr.loadAt T_api_Proof t8)) fun v38 =>
 SemH PG (storeS T_api_Proof t4 v38) h0 fun v39 h40 =>
 popO (SemE PG h40 (Instr.loadAt T_api_Proof t4)) fun v41 =>
 R (Value.tuple #[v41, (Value.int IntKind.i64 0)]) h40
def proof_Absent_k36 (R : Value → PH → Prop) (t4 : Value) (t8 : Value) (h0 : PH) : Prop :=
 proof_Absent_k37 R t4 t8 h0
def proof_Absent (t0 : Value) (t1 : Value) (h0 : PH) (R : Value → PH → Prop) : Prop :=
 ∀ r1, h0 r1 = none → bindH (PH.set h0 r1 (.cells (zcells PG T_api_Proof) T_api_Proof)) fun h2 =>
 popO (SemP PG (Builtin.len_ #[T_string] T_int #[t1])) fun v3 =>
 popO (SemP PG (binOp BinOp.lss T_int v3 (Value.int IntKind.i64 1))) fun v4 =>
 gopV (yV v4) false (fun k7 => k7 t1 h2) h2 fun v5 h6 =>
 gopV (yV v4) false (fun k10 => popO (SemP PG (Builtin.len_ #[T_string] T_int #[v5])) fun v11 => k10 v11 h6) h6 fun v8 h9 =>
 gopV (yV v4) false (fun k14 => popO (SemP PG (binOp BinOp.gtr T_int v8 (Value.int IntKind.i64 16))) fun v15 => k14 v15 h9) h9 fun v12 h13 =>
 popO (pickV v4 (Value.bool true) v12) fun v16 =>
 condV v16
 (popO (SemP PG (Instr.build T_api_Proof #[])) fun v17 =>
 SemH PG (storeS T_api_Proof (Value.pointer (some ⟨r1, 0, none⟩)) v17) h13 fun v18 h19 =>
 popO (SemE PG h19 (Instr.loadAt T_api_Proof (Value.pointer (some ⟨r1, 0, none⟩)))) fun v20 =>
 R (Value.tuple #[v20, (Value.int IntKind.i64 1)]) h19)
 (CallsH PG id_proof_find #[t0, t1] h13 fun v21 h22 =>
 popO (SemP PG (Instr.extract v21 0)) fun v23 =>
 popO (SemP PG (Instr.extract v21 1)) fun v24 =>
 popO (SemP PG (Instr.build T_api_Proof #[(0, (Value.bool true))])) fun v25 =>
 ∀ r26, h22 r26 = none → bindH (PH.set h22 r26 (.cells (zcells PG T_api_Proof) T_api_Proof)) fun h27 =>
 SemH PG (storeS T_api_Proof (Value.pointer (some ⟨r26, 0, none⟩)) v25) h27 fun v28 h29 =>
 condV v24
 (popO (SemP PG (Instr.build T_api_Proof #[])) fun v30 =>
 SemH PG (storeS T_api_Proof (Value.pointer (some ⟨r1, 0, none⟩)) v30) h29 fun v31 h32 =>
 popO (SemE PG h32 (Instr.loadAt T_api_Proof (Value.pointer (some ⟨r1, 0, none⟩)))) fun v33 =>
 R (Value.tuple #[v33, (Value.int IntKind.i64 4)]) h32)
 (popO (SemP PG (Builtin.len_ #[T_sl_api_Pair] T_int #[t0])) fun v34 =>
 popO (SemE PG h29 (binS BinOp.eql T_int (.tmp 37) (.const (Value.int IntKind.i64 0)) v34 (Value.int IntKind.i64 0))) fun v35 =>
 condV v35
 (proof_Absent_k36 R (Value.pointer (some ⟨r1, 0, none⟩)) (Value.pointer (some ⟨r26, 0, none⟩)) h29)
 (popO (SemE PG h29 (binS BinOp.eql T_int (.tmp 40) (.const (Value.int IntKind.i64 0)) v23 (Value.int IntKind.i64 0))) fun v42 =>
 condV v42
 (popO (SemA PG (Instr.buildSlice T_sl_int 1 #[(0, (Value.int IntKind.i64 0))])) fun x44 => ∀ r43, h29 r43 = none → popO (SemP PG (x44.2 r43)) fun v45 => bindH (PH.set h29 r43 x44.1) fun h46 =>
 CallsH PG id_proof_leaves #[t0, v45] h46 fun v47 h48 =>
 popO (SemP PG (Instr.fieldAt T_api_Proof (Value.pointer (some ⟨r26, 0, none⟩)) 1)) fun v49 =>
 SemH PG (storeS T_sl_api_Leaf v49 v47) h48 fun v50 h51 =>
 proof_Absent_k36 R (Value.pointer (some ⟨r1, 0, none⟩)) (Value.pointer (some ⟨r26, 0, none⟩)) h51)
 (popO (SemP PG (Builtin.len_ #[T_sl_api_Pair] T_int #[t0])) fun v52 =>
 popO (SemE PG h29 (binS BinOp.eql T_int (.tmp 47) (.tmp 49) v23 v52)) fun v53 =>
 condV v53
 (popO (SemP PG (binOp BinOp.sub T_int v23 (Value.int IntKind.i64 1))) fun v54 =>
 popO (SemA PG (Instr.buildSlice T_sl_int 1 #[(0, v54)])) fun x56 => ∀ r55, h29 r55 = none → popO (SemP PG (x56.2 r55)) fun v57 => bindH (PH.set h29 r55 x56.1) fun h58 =>
 CallsH PG id_proof_leaves #[t0, v57] h58 fun v59 h60 =>
 popO (SemP PG (Instr.fieldAt T_api_Proof (Value.pointer (some ⟨r26, 0, none⟩)) 1)) fun v61 =>
 SemH PG (storeS T_sl_api_Leaf v61 v59) h60 fun v62 h63 =>
 proof_Absent_k36 R (Value.pointer (some ⟨r1, 0, none⟩)) (Value.pointer (some ⟨r26, 0, none⟩)) h63)
 (popO (SemP PG (binOp BinOp.sub T_int v23 (Value.int IntKind.i64 1))) fun v64 =>
 popO (SemA PG (Instr.buildSlice T_sl_int 2 #[(0, v64), (1, v23)])) fun x66 => ∀ r65, h29 r65 = none → popO (SemP PG (x66.2 r65)) fun v67 => bindH (PH.set h29 r65 x66.1) fun h68 =>
 CallsH PG id_proof_leaves #[t0, v67] h68 fun v69 h70 =>
 popO (SemP PG (Instr.fieldAt T_api_Proof (Value.pointer (some ⟨r26, 0, none⟩)) 1)) fun v71 =>
 SemH PG (storeS T_sl_api_Leaf v71 v69) h70 fun v72 h73 =>
 proof_Absent_k36 R (Value.pointer (some ⟨r1, 0, none⟩)) (Value.pointer (some ⟨r26, 0, none⟩)) h73)))))
theorem proof_Absent.call {t0 : Value} {t1 : Value} {h0 : PH} {R : Value → PH → Prop} (H : proof_Absent t0 t1 h0 R) : CallsH PG id_proof_Absent #[t0, t1] h0 R :=
  callsF_by (an0 58) 200 mix Tryz.func51 (by kernel_rfl) (by kernel_rfl) (by kernel_rfl) (by kernel_rfl) (by simp [Tryz.ntmps51]) (by kernel_rfl) H
def proof_Bytes_b74 (R : Value → PH → Prop) (n36 : List Value → PH → Prop) (n73 : List Value → PH → Prop) (t4 : Value) (t28 : Value) (t29 : Value) (t30 : Value) (t55 : Value) (t56 : Value) (t57 : Value) (h0 : PH) : Prop :=
 popO (SemP PG (binOp BinOp.lss T_int t57 t56)) fun v75 =>
 condV v75
 (popO (SemP PG (Instr.indexAt T_sl_string t55 t57)) fun v76 =>
 popO (SemE PG h0 (Instr.loadAt T_string v76)) fun v77 =>
 CallsH PG id_wire_Writer_Raw #[t4, v77] h0 fun v78 h79 =>
 popO (SemP PG (binOp BinOp.add T_int t57 (Value.int IntKind.i64 1))) fun v80 =>
 n73 [t4, t28, t29, t30, t55, t56, v80] h79)
 (popO (SemP PG (binOp BinOp.add T_int t30 (Value.int IntKind.i64 1))) fun v81 =>
 n36 [t4, t28, t29, v81] h0)
def proof_Bytes_b37 (R : Value → PH → Prop) (n36 : List Value → PH → Prop) (t4 : Value) (t28 : Value) (t29 : Value) (t30 : Value) (h0 : PH) : Prop :=
 popO (SemP PG (binOp BinOp.lss T_int t30 t29)) fun v38 =>
 condV v38
 (popO (SemP PG (Instr.indexAt T_sl_api_Leaf t28 t30)) fun v39 =>
 popO (SemE PG h0 (Instr.loadAt T_api_Leaf v39)) fun v40 =>
 ∀ r41, h0 r41 = none → bindH (PH.set h0 r41 (.cells (zcells PG T_api_Leaf) T_api_Leaf)) fun h42 =>
 SemH PG (storeS T_api_Leaf (Value.pointer (some ⟨r41, 0, none⟩)) v40) h42 fun v43 h44 =>
 popO (SemP PG (Instr.fieldAt T_api_Leaf (Value.pointer (some ⟨r41, 0, none⟩)) 0)) fun v45 =>
 popO (SemE PG h44 (Instr.loadAt T_int v45)) fun v46 =>
 popO (SemP PG (convert T_int T_uint64 v46)) fun v47 =>
 CallsH PG id_wire_Writer_Number #[t4, v47] h44 fun v48 h49 =>
 popO (SemP PG (Instr.fieldAt T_api_Leaf (Value.pointer (some ⟨r41, 0, none⟩)) 1)) fun v50 =>
 popO (SemE PG h49 (Instr.loadAt T_int v50)) fun v51 =>
 popO (SemP PG (convert T_int T_uint64 v51)) fun v52 =>
 CallsH PG id_wire_Writer_Number #[t4, v52] h49 fun v53 h54 =>
 popO (SemP PG (Instr.fieldAt T_api_Leaf (Value.pointer (some ⟨r41, 0, none⟩)) 2)) fun v55 =>
 popO (SemP PG (Instr.fieldAt T_api_Pair v55 0)) fun v56 =>
 popO (SemE PG h54 (Instr.loadAt T_string v56)) fun v57 =>
 CallsH PG id_wire_Writer_Text #[t4, v57] h54 fun v58 h59 =>
 popO (SemP PG (Instr.fieldAt T_api_Leaf (Value.pointer (some ⟨r41, 0, none⟩)) 2)) fun v60 =>
 popO (SemP PG (Instr.fieldAt T_api_Pair v60 1)) fun v61 =>
 popO (SemE PG h59 (Instr.loadAt T_string v61)) fun v62 =>
 CallsH PG id_wire_Writer_Text #[t4, v62] h59 fun v63 h64 =>
 popO (SemP PG (Instr.fieldAt T_api_Leaf (Value.pointer (some ⟨r41, 0, none⟩)) 3)) fun v65 =>
 popO (SemE PG h64 (Instr.loadAt T_sl_string v65)) fun v66 =>
 popO (SemP PG (Builtin.len_ #[T_sl_string] T_int #[v66])) fun v67 =>
 CallsH PG id_wire_Writer_Byte #[t4, v67] h64 fun v68 h69 =>
 popO (SemP PG (Instr.fieldAt T_api_Leaf (Value.pointer (some ⟨r41, 0, none⟩)) 3)) fun v70 =>
 popO (SemE PG h69 (Instr.loadAt T_sl_string v70)) fun v71 =>
 popO (SemP PG (Builtin.len_ #[T_sl_string] T_int #[v71])) fun v72 =>
 LoopL [4, 28, 29, 30, 55, 56, 57] (fun n73 ρ h => proof_Bytes_b74 R n36 n73 (ρ 4) (ρ 28) (ρ 29) (ρ 30) (ρ 55) (ρ 56) (ρ 57) h) [t4, t28, t29, t30, v71, v72, (Value.int IntKind.i64 0)] h69)
 (CallsH PG id_wire_Writer_Bytes #[t4] h0 fun v82 h83 =>
 popO (SemP PG (Instr.extract v82 0)) fun v84 =>
 popO (SemP PG (Instr.extract v82 1)) fun v85 =>
 R (Value.tuple #[v84, v85]) h83)
def proof_Bytes_k25 (R : Value → PH → Prop) (t1 : Value) (t4 : Value) (t5 : Value) (h0 : PH) : Prop :=
 CallsH PG id_wire_Writer_Byte #[t4, t5] h0 fun v26 h27 =>
 popO (SemP PG (Instr.fieldAt T_api_Proof t1 1)) fun v28 =>
 popO (SemE PG h27 (Instr.loadAt T_sl_api_Leaf v28)) fun v29 =>
 popO (SemP PG (Builtin.len_ #[T_sl_api_Leaf] T_int #[v29])) fun v30 =>
 CallsH PG id_wire_Writer_Byte #[t4, v30] h27 fun v31 h32 =>
 popO (SemP PG (Instr.fieldAt T_api_Proof t1 1)) fun v33 =>
 popO (SemE PG h32 (Instr.loadAt T_sl_api_Leaf v33)) fun v34 =>
 popO (SemP PG (Builtin.len_ #[T_sl_api_Leaf] T_int #[v34])) fun v35 =>
 LoopL [4, 28, 29, 30] (fun n36 ρ h => proof_Bytes_b37 R n36 (ρ 4) (ρ 28) (ρ 29) (ρ 30) h) [t4, v34, v35, (Value.int IntKind.i64 0)] h32
def proof_Bytes (t0 : Value) (h0 : PH) (R : Value → PH → Prop) : Prop :=
 ∀ r1, h0 r1 = none → bindH (PH.set h0 r1 (.cells (Value.cells t0) T_api_Proof)) fun h2 =>
 popO (SemP PG (Instr.fieldAt T_api_Proof (Value.pointer (some ⟨r1, 0, none⟩)) 1)) fun v3 =>
 popO (SemE PG h2 (Instr.loadAt T_sl_api_Leaf v3)) fun v4 =>
 popO (SemP PG (Builtin.len_ #[T_sl_api_Leaf] T_int #[v4])) fun v5 =>
 popO (SemP PG (binOp BinOp.gtr T_int v5 (Value.int IntKind.i64 2))) fun v6 =>
 gopV (yV v6) false (fun k9 => popO (SemP PG (Instr.fieldAt T_api_Proof (Value.pointer (some ⟨r1, 0, none⟩)) 1)) fun v10 => k9 v10 h2) h2 fun v7 h8 =>
 gopV (yV v6) false (fun k13 => popO (SemE PG h8 (Instr.loadAt T_sl_api_Leaf v7)) fun v14 => k13 v14 h8) h8 fun v11 h12 =>
 gopV (yV v6) false (fun k17 => CallsH PG id_slices_ContainsFunc_sl_api_Leaf_api_Leaf #[v11, (Value.func (Fn.func id_proof_Bytes_1) #[] #[])] h12 fun v18 h19 => k17 v18 h19) h12 fun v15 h16 =>
 popO (pickV v6 (Value.bool true) v15) fun v20 =>
 condV v20
 (R (Value.tuple #[(Value.string { data := #[] }), (Value.int IntKind.i64 1)]) h16)
 (∀ r21, h16 r21 = none → bindH (PH.set h16 r21 (.cells (zcells PG T_wire_Writer) T_wire_Writer)) fun h22 =>
 popO (SemP PG (Instr.fieldAt T_api_Proof (Value.pointer (some ⟨r1, 0, none⟩)) 0)) fun v23 =>
 popO (SemE PG h22 (Instr.loadAt T_bool v23)) fun v24 =>
 condV v24
 (proof_Bytes_k25 R (Value.pointer (some ⟨r1, 0, none⟩)) (Value.pointer (some ⟨r21, 0, none⟩)) (Value.int IntKind.i64 2) h22)
 (proof_Bytes_k25 R (Value.pointer (some ⟨r1, 0, none⟩)) (Value.pointer (some ⟨r21, 0, none⟩)) (Value.int IntKind.i64 1) h22))
def proof_Bytes.ann : Ann := { b := fun i => match i with  | _ => #[], ord := fun i => match i with  | _ => [], keep := fun i => match i with | 10 => [4, 28, 29, 30] | 18 => [4, 28, 29, 30, 55, 56, 57] | _ => [], n := 68 }
theorem proof_Bytes.call {t0 : Value} {h0 : PH} {R : Value → PH → Prop} (H : proof_Bytes t0 h0 R) : CallsH PG id_proof_Bytes #[t0] h0 R :=
  callsF_by proof_Bytes.ann 200 mix Tryz.func52 (by kernel_rfl) (by kernel_rfl) (by kernel_rfl) (by kernel_rfl) (by simp [Tryz.ntmps52]) (by kernel_rfl) H
def slices_ContainsFunc_sl_api_Leaf_api_Leaf (t0 : Value) (t1 : Value) (h0 : PH) (R : Value → PH → Prop) : Prop :=
 CallsH PG id_slices_IndexFunc_sl_api_Leaf_api_Leaf #[t0, t1] h0 fun v1 h2 =>
 popO (SemP PG (binOp BinOp.geq T_int v1 (Value.int IntKind.i64 0))) fun v3 =>
 R v3 h2
theorem slices_ContainsFunc_sl_api_Leaf_api_Leaf.call {t0 : Value} {t1 : Value} {h0 : PH} {R : Value → PH → Prop} (H : slices_ContainsFunc_sl_api_Leaf_api_Leaf t0 t1 h0 R) : CallsH PG id_slices_ContainsFunc_sl_api_Leaf_api_Leaf #[t0, t1] h0 R :=
  callsF_by (an0 9) 200 mix Tryz.func114 (by kernel_rfl) (by kernel_rfl) (by kernel_rfl) (by kernel_rfl) (by simp [Tryz.ntmps114]) (by kernel_rfl) H
def slices_IndexFunc_sl_api_Leaf_api_Leaf_b3 (R : Value → PH → Prop) (n2 : List Value → PH → Prop) (t0 : Value) (t1 : Value) (t7 : Value) (t8 : Value) (h0 : PH) : Prop :=
 popO (SemP PG (binOp BinOp.lss T_int t8 t7)) fun v4 =>
 condV v4
 (popO (SemP PG (Instr.indexAt T_sl_api_Leaf t0 t8)) fun v5 =>
 popO (SemE PG h0 (Instr.loadAt T_api_Leaf v5)) fun v6 =>
 callC PG t1 #[v6] h0 fun v7 h8 =>
 condV v7
 (R t8 h8)
 (popO (SemP PG (binOp BinOp.add T_int t8 (Value.int IntKind.i64 1))) fun v9 =>
 n2 [t0, t1, t7, v9] h8))
 (R (Value.int IntKind.i64 (-1)) h0)
def slices_IndexFunc_sl_api_Leaf_api_Leaf (t0 : Value) (t1 : Value) (h0 : PH) (R : Value → PH → Prop) : Prop :=
 popO (SemP PG (Builtin.len_ #[T_sl_api_Leaf] T_int #[t0])) fun v1 =>
 LoopL [0, 1, 7, 8] (fun n2 ρ h => slices_IndexFunc_sl_api_Leaf_api_Leaf_b3 R n2 (ρ 0) (ρ 1) (ρ 7) (ρ 8) h) [t0, t1, v1, (Value.int IntKind.i64 0)] h0
theorem slices_IndexFunc_sl_api_Leaf_api_Leaf.call {t0 : Value} {t1 : Value} {h0 : PH} {R : Value → PH → Prop} (H : slices_IndexFunc_sl_api_Leaf_api_Leaf t0 t1 h0 R) : CallsH PG id_slices_IndexFunc_sl_api_Leaf_api_Leaf #[t0, t1] h0 R :=
  callsF_by (an1 2 [0, 1, 7, 8] 19) 200 mix Tryz.func163 (by kernel_rfl) (by kernel_rfl) (by kernel_rfl) (by kernel_rfl) (by simp [Tryz.ntmps163]) (by kernel_rfl) H
def proof_Bytes_1 (t0 : Value) (h0 : PH) (R : Value → PH → Prop) : Prop :=
 ∀ r1, h0 r1 = none → bindH (PH.set h0 r1 (.cells (Value.cells t0) T_api_Leaf)) fun h2 =>
 popO (SemE PG h2 (Instr.loadAt T_api_Leaf (Value.pointer (some ⟨r1, 0, none⟩)))) fun v3 =>
 CallsH PG id_proof_within #[v3] h2 fun v4 h5 =>
 popO (SemP PG (Op.unary UnOp.not v4)) fun v6 =>
 R v6 h5
theorem proof_Bytes_1.call {t0 : Value} {h0 : PH} {R : Value → PH → Prop} (H : proof_Bytes_1 t0 h0 R) : CallsH PG id_proof_Bytes_1 #[t0] h0 R :=
  callsF_by (an0 6) 200 mix Tryz.func115 (by kernel_rfl) (by kernel_rfl) (by kernel_rfl) (by kernel_rfl) (by simp [Tryz.ntmps115]) (by kernel_rfl) H
def proof_within (t0 : Value) (h0 : PH) (R : Value → PH → Prop) : Prop :=
 ∀ r1, h0 r1 = none → bindH (PH.set h0 r1 (.cells (Value.cells t0) T_api_Leaf)) fun h2 =>
 popO (SemP PG (Instr.fieldAt T_api_Leaf (Value.pointer (some ⟨r1, 0, none⟩)) 0)) fun v3 =>
 popO (SemE PG h2 (Instr.loadAt T_int v3)) fun v4 =>
 popO (SemP PG (binOp BinOp.lss T_int v4 (Value.int IntKind.i64 0))) fun v5 =>
 gopV (yV v5) false (fun k8 => popO (SemP PG (Instr.fieldAt T_api_Leaf (Value.pointer (some ⟨r1, 0, none⟩)) 0)) fun v9 => k8 v9 h2) h2 fun v6 h7 =>
 gopV (yV v5) false (fun k12 => popO (SemE PG h7 (Instr.loadAt T_int v6)) fun v13 => k12 v13 h7) h7 fun v10 h11 =>
 gopV (yV v5) false (fun k16 => popO (SemP PG (binOp BinOp.gtr T_int v10 (Value.int IntKind.i64 4096))) fun v17 => k16 v17 h11) h11 fun v14 h15 =>
 popO (pickV v5 (Value.bool true) v14) fun v18 =>
 gopV (yV v18) false (fun k21 => popO (SemP PG (Instr.fieldAt T_api_Leaf (Value.pointer (some ⟨r1, 0, none⟩)) 1)) fun v22 => k21 v22 h15) h15 fun v19 h20 =>
 gopV (yV v18) false (fun k25 => popO (SemE PG h20 (Instr.loadAt T_int v19)) fun v26 => k25 v26 h20) h20 fun v23 h24 =>
 gopV (yV v18) false (fun k29 => popO (SemP PG (binOp BinOp.lss T_int v23 (Value.int IntKind.i64 0))) fun v30 => k29 v30 h24) h24 fun v27 h28 =>
 popO (pickV v18 (Value.bool true) v27) fun v31 =>
 gopV (yV v31) false (fun k34 => popO (SemP PG (Instr.fieldAt T_api_Leaf (Value.pointer (some ⟨r1, 0, none⟩)) 1)) fun v35 => k34 v35 h28) h28 fun v32 h33 =>
 gopV (yV v31) false (fun k38 => popO (SemE PG h33 (Instr.loadAt T_int v32)) fun v39 => k38 v39 h33) h33 fun v36 h37 =>
 gopV (yV v31) false (fun k42 => popO (SemP PG (binOp BinOp.gtr T_int v36 (Value.int IntKind.i64 4096))) fun v43 => k42 v43 h37) h37 fun v40 h41 =>
 popO (pickV v31 (Value.bool true) v40) fun v44 =>
 gopV (yV v44) false (fun k47 => popO (SemP PG (Instr.fieldAt T_api_Leaf (Value.pointer (some ⟨r1, 0, none⟩)) 2)) fun v48 => k47 v48 h41) h41 fun v45 h46 =>
 gopV (yV v44) false (fun k51 => popO (SemP PG (Instr.fieldAt T_api_Pair v45 0)) fun v52 => k51 v52 h46) h46 fun v49 h50 =>
 gopV (yV v44) false (fun k55 => popO (SemE PG h50 (Instr.loadAt T_string v49)) fun v56 => k55 v56 h50) h50 fun v53 h54 =>
 gopV (yV v44) false (fun k59 => popO (SemP PG (Builtin.len_ #[T_string] T_int #[v53])) fun v60 => k59 v60 h54) h54 fun v57 h58 =>
 gopV (yV v44) false (fun k63 => popO (SemP PG (binOp BinOp.gtr T_int v57 (Value.int IntKind.i64 16))) fun v64 => k63 v64 h58) h58 fun v61 h62 =>
 popO (pickV v44 (Value.bool true) v61) fun v65 =>
 gopV (yV v65) false (fun k68 => popO (SemP PG (Instr.fieldAt T_api_Leaf (Value.pointer (some ⟨r1, 0, none⟩)) 2)) fun v69 => k68 v69 h62) h62 fun v66 h67 =>
 gopV (yV v65) false (fun k72 => popO (SemP PG (Instr.fieldAt T_api_Pair v66 1)) fun v73 => k72 v73 h67) h67 fun v70 h71 =>
 gopV (yV v65) false (fun k76 => popO (SemE PG h71 (Instr.loadAt T_string v70)) fun v77 => k76 v77 h71) h71 fun v74 h75 =>
 gopV (yV v65) false (fun k80 => popO (SemP PG (Builtin.len_ #[T_string] T_int #[v74])) fun v81 => k80 v81 h75) h75 fun v78 h79 =>
 gopV (yV v65) false (fun k84 => popO (SemP PG (binOp BinOp.gtr T_int v78 (Value.int IntKind.i64 64))) fun v85 => k84 v85 h79) h79 fun v82 h83 =>
 popO (pickV v65 (Value.bool true) v82) fun v86 =>
 gopV (yV v86) false (fun k89 => popO (SemP PG (Instr.fieldAt T_api_Leaf (Value.pointer (some ⟨r1, 0, none⟩)) 3)) fun v90 => k89 v90 h83) h83 fun v87 h88 =>
 gopV (yV v86) false (fun k93 => popO (SemE PG h88 (Instr.loadAt T_sl_string v87)) fun v94 => k93 v94 h88) h88 fun v91 h92 =>
 gopV (yV v86) false (fun k97 => popO (SemP PG (Builtin.len_ #[T_sl_string] T_int #[v91])) fun v98 => k97 v98 h92) h92 fun v95 h96 =>
 gopV (yV v86) false (fun k101 => popO (SemP PG (binOp BinOp.gtr T_int v95 (Value.int IntKind.i64 16))) fun v102 => k101 v102 h96) h96 fun v99 h100 =>
 popO (pickV v86 (Value.bool true) v99) fun v103 =>
 condV v103
 (R (Value.bool false) h100)
 (popO (SemP PG (Instr.fieldAt T_api_Leaf (Value.pointer (some ⟨r1, 0, none⟩)) 3)) fun v104 =>
 popO (SemE PG h100 (Instr.loadAt T_sl_string v104)) fun v105 =>
 CallsH PG id_slices_ContainsFunc_sl_string_string #[v105, (Value.func (Fn.func id_proof_within_1) #[] #[])] h100 fun v106 h107 =>
 popO (SemP PG (Op.unary UnOp.not v106)) fun v108 =>
 R v108 h107)
theorem proof_within.call {t0 : Value} {h0 : PH} {R : Value → PH → Prop} (H : proof_within t0 h0 R) : CallsH PG id_proof_within #[t0] h0 R :=
  callsF_by (an0 45) 200 mix Tryz.func116 (by kernel_rfl) (by kernel_rfl) (by kernel_rfl) (by kernel_rfl) (by simp [Tryz.ntmps116]) (by kernel_rfl) H
def slices_ContainsFunc_sl_string_string (t0 : Value) (t1 : Value) (h0 : PH) (R : Value → PH → Prop) : Prop :=
 CallsH PG id_slices_IndexFunc_sl_string_string #[t0, t1] h0 fun v1 h2 =>
 popO (SemP PG (binOp BinOp.geq T_int v1 (Value.int IntKind.i64 0))) fun v3 =>
 R v3 h2
theorem slices_ContainsFunc_sl_string_string.call {t0 : Value} {t1 : Value} {h0 : PH} {R : Value → PH → Prop} (H : slices_ContainsFunc_sl_string_string t0 t1 h0 R) : CallsH PG id_slices_ContainsFunc_sl_string_string #[t0, t1] h0 R :=
  callsF_by (an0 9) 200 mix Tryz.func164 (by kernel_rfl) (by kernel_rfl) (by kernel_rfl) (by kernel_rfl) (by simp [Tryz.ntmps164]) (by kernel_rfl) H
def slices_IndexFunc_sl_string_string_b3 (R : Value → PH → Prop) (n2 : List Value → PH → Prop) (t0 : Value) (t1 : Value) (t7 : Value) (t8 : Value) (h0 : PH) : Prop :=
 popO (SemP PG (binOp BinOp.lss T_int t8 t7)) fun v4 =>
 condV v4
 (popO (SemP PG (Instr.indexAt T_sl_string t0 t8)) fun v5 =>
 popO (SemE PG h0 (Instr.loadAt T_string v5)) fun v6 =>
 callC PG t1 #[v6] h0 fun v7 h8 =>
 condV v7
 (R t8 h8)
 (popO (SemP PG (binOp BinOp.add T_int t8 (Value.int IntKind.i64 1))) fun v9 =>
 n2 [t0, t1, t7, v9] h8))
 (R (Value.int IntKind.i64 (-1)) h0)
def slices_IndexFunc_sl_string_string (t0 : Value) (t1 : Value) (h0 : PH) (R : Value → PH → Prop) : Prop :=
 popO (SemP PG (Builtin.len_ #[T_sl_string] T_int #[t0])) fun v1 =>
 LoopL [0, 1, 7, 8] (fun n2 ρ h => slices_IndexFunc_sl_string_string_b3 R n2 (ρ 0) (ρ 1) (ρ 7) (ρ 8) h) [t0, t1, v1, (Value.int IntKind.i64 0)] h0
theorem slices_IndexFunc_sl_string_string.call {t0 : Value} {t1 : Value} {h0 : PH} {R : Value → PH → Prop} (H : slices_IndexFunc_sl_string_string t0 t1 h0 R) : CallsH PG id_slices_IndexFunc_sl_string_string #[t0, t1] h0 R :=
  callsF_by (an1 2 [0, 1, 7, 8] 19) 200 mix Tryz.func208 (by kernel_rfl) (by kernel_rfl) (by kernel_rfl) (by kernel_rfl) (by simp [Tryz.ntmps208]) (by kernel_rfl) H
def proof_within_1 (t0 : Value) (h0 : PH) (R : Value → PH → Prop) : Prop :=
 popO (SemP PG (Builtin.len_ #[T_string] T_int #[t0])) fun v1 =>
 popO (SemE PG h0 (binS BinOp.neq T_int (.tmp 4) (.const (Value.int IntKind.i64 32)) v1 (Value.int IntKind.i64 32))) fun v2 =>
 R v2 h0
theorem proof_within_1.call {t0 : Value} {h0 : PH} {R : Value → PH → Prop} (H : proof_within_1 t0 h0 R) : CallsH PG id_proof_within_1 #[t0] h0 R :=
  callsF_by (an0 6) 200 mix Tryz.func165 (by kernel_rfl) (by kernel_rfl) (by kernel_rfl) (by kernel_rfl) (by simp [Tryz.ntmps165]) (by kernel_rfl) H
def wire_Writer_Byte (t0 : Value) (t1 : Value) (h0 : PH) (R : Value → PH → Prop) : Prop :=
 popO (SemP PG (binOp BinOp.lss T_int t1 (Value.int IntKind.i64 0))) fun v1 =>
 gopV (yV v1) false (fun k4 => k4 t1 h0) h0 fun v2 h3 =>
 gopV (yV v1) false (fun k7 => popO (SemP PG (binOp BinOp.gtr T_int v2 (Value.int IntKind.i64 255))) fun v8 => k7 v8 h3) h3 fun v5 h6 =>
 popO (pickV v1 (Value.bool true) v5) fun v9 =>
 condV v9
 (popO (SemP PG (nilS t0)) fun v10 =>
 popO (SemP PG (Instr.fieldAt T_wire_Writer v10 0)) fun v11 =>
 CallsH PG id_wire_memory_Fail #[v11, (Value.int IntKind.i64 1)] h6 fun v12 h13 =>
 R (Value.tuple #[]) h13)
 (popO (SemP PG (convert T_int T_uint64 t1)) fun v14 =>
 CallsH PG id_wire_Writer_put #[t0, v14, (Value.int IntKind.i64 1)] h6 fun v15 h16 =>
 R (Value.tuple #[]) h16)
theorem wire_Writer_Byte.call {t0 : Value} {t1 : Value} {h0 : PH} {R : Value → PH → Prop} (H : wire_Writer_Byte t0 t1 h0 R) : CallsH PG id_wire_Writer_Byte #[t0, t1] h0 R :=
  callsF_by (an0 18) 200 mix Tryz.func117 (by kernel_rfl) (by kernel_rfl) (by kernel_rfl) (by kernel_rfl) (by simp [Tryz.ntmps117]) (by kernel_rfl) H
def wire_memory_Fail (t0 : Value) (t1 : Value) (h0 : PH) (R : Value → PH → Prop) : Prop :=
 popO (SemP PG (nilS t0)) fun v1 =>
 popO (SemP PG (Instr.fieldAt T_wire_memory v1 0)) fun v2 =>
 popO (SemE PG h0 (Instr.loadAt T_api_Errno v2)) fun v3 =>
 popO (SemE PG h0 (binS BinOp.eql T_api_Errno (.tmp 7) (.const (Value.int IntKind.i64 0)) v3 (Value.int IntKind.i64 0))) fun v4 =>
 condV v4
 (popO (SemP PG (nilS t0)) fun v5 =>
 popO (SemP PG (Instr.fieldAt T_wire_memory v5 0)) fun v6 =>
 SemH PG (storeS T_api_Errno v6 t1) h0 fun v7 h8 =>
 R (Value.tuple #[]) h8)
 (R (Value.tuple #[]) h0)
theorem wire_memory_Fail.call {t0 : Value} {t1 : Value} {h0 : PH} {R : Value → PH → Prop} (H : wire_memory_Fail t0 t1 h0 R) : CallsH PG id_wire_memory_Fail #[t0, t1] h0 R :=
  callsF_by (an0 13) 200 mix Tryz.func166 (by kernel_rfl) (by kernel_rfl) (by kernel_rfl) (by kernel_rfl) (by simp [Tryz.ntmps166]) (by kernel_rfl) H
def wire_Writer_put_b3 (R : Value → PH → Prop) (n2 : List Value → PH → Prop) (t0 : Value) (t1 : Value) (t6 : Value) (h0 : PH) : Prop :=
 popO (SemP PG (binOp BinOp.geq T_int t6 (Value.int IntKind.i64 0))) fun v4 =>
 condV v4
 (popO (SemP PG (nilS t0)) fun v5 =>
 popO (SemP PG (Instr.fieldAt T_wire_Writer v5 1)) fun v6 =>
 popO (SemP PG (binOp BinOp.mul T_int (Value.int IntKind.i64 8) t6)) fun v7 =>
 popO (SemP PG (binOp BinOp.shr T_uint64 t1 v7)) fun v8 =>
 popO (SemP PG (convert T_uint64 T_uint8 v8)) fun v9 =>
 CallsH PG id_strings_Builder_WriteByte #[v6, v9] h0 fun v10 h11 =>
 (popO (SemP PG (binOp BinOp.sub T_int t6 (Value.int IntKind.i64 1))) fun v12 =>
 n2 [t0, t1, v12] h11))
 (R (Value.tuple #[]) h0)
def wire_Writer_put (t0 : Value) (t1 : Value) (t2 : Value) (h0 : PH) (R : Value → PH → Prop) : Prop :=
 popO (SemP PG (binOp BinOp.sub T_int t2 (Value.int IntKind.i64 1))) fun v1 =>
 LoopL [0, 1, 6] (fun n2 ρ h => wire_Writer_put_b3 R n2 (ρ 0) (ρ 1) (ρ 6) h) [t0, t1, v1] h0
def wire_Writer_put.ann : Ann := { b := fun i => match i with | 3 => #[0, 1, 3, 0, 0, 16, 56, 120, 255] | _ => #[], ord := fun i => match i with | 3 => [0, 1, 2, 3, 4, 5, 6, 7, 8] | _ => [], keep := fun i => match i with | 1 => [0, 1, 6] | _ => [], n := 22 }
theorem wire_Writer_put.call {t0 : Value} {t1 : Value} {t2 : Value} {h0 : PH} {R : Value → PH → Prop} (H : wire_Writer_put t0 t1 t2 h0 R) : CallsH PG id_wire_Writer_put #[t0, t1, t2] h0 R :=
  callsF_by wire_Writer_put.ann 200 mix Tryz.func167 (by kernel_rfl) (by kernel_rfl) (by kernel_rfl) (by kernel_rfl) (by simp [Tryz.ntmps167]) (by kernel_rfl) H
def wire_Writer_Number (t0 : Value) (t1 : Value) (h0 : PH) (R : Value → PH → Prop) : Prop :=
 CallsH PG id_wire_Writer_put #[t0, t1, (Value.int IntKind.i64 8)] h0 fun v1 h2 =>
 R (Value.tuple #[]) h2
theorem wire_Writer_Number.call {t0 : Value} {t1 : Value} {h0 : PH} {R : Value → PH → Prop} (H : wire_Writer_Number t0 t1 h0 R) : CallsH PG id_wire_Writer_Number #[t0, t1] h0 R :=
  callsF_by (an0 7) 200 mix Tryz.func118 (by kernel_rfl) (by kernel_rfl) (by kernel_rfl) (by kernel_rfl) (by simp [Tryz.ntmps118]) (by kernel_rfl) H
def wire_Writer_Text (t0 : Value) (t1 : Value) (h0 : PH) (R : Value → PH → Prop) : Prop :=
 popO (SemP PG (Builtin.len_ #[T_string] T_int #[t1])) fun v1 =>
 popO (SemP PG (binOp BinOp.gtr T_int v1 (Value.int IntKind.i64 65535))) fun v2 =>
 condV v2
 (popO (SemP PG (nilS t0)) fun v3 =>
 popO (SemP PG (Instr.fieldAt T_wire_Writer v3 0)) fun v4 =>
 CallsH PG id_wire_memory_Fail #[v4, (Value.int IntKind.i64 1)] h0 fun v5 h6 =>
 R (Value.tuple #[]) h6)
 (popO (SemP PG (Builtin.len_ #[T_string] T_int #[t1])) fun v7 =>
 popO (SemP PG (convert T_int T_uint64 v7)) fun v8 =>
 CallsH PG id_wire_Writer_put #[t0, v8, (Value.int IntKind.i64 2)] h0 fun v9 h10 =>
 CallsH PG id_wire_Writer_Raw #[t0, t1] h10 fun v11 h12 =>
 R (Value.tuple #[]) h12)
theorem wire_Writer_Text.call {t0 : Value} {t1 : Value} {h0 : PH} {R : Value → PH → Prop} (H : wire_Writer_Text t0 t1 h0 R) : CallsH PG id_wire_Writer_Text #[t0, t1] h0 R :=
  callsF_by (an0 19) 200 mix Tryz.func119 (by kernel_rfl) (by kernel_rfl) (by kernel_rfl) (by kernel_rfl) (by simp [Tryz.ntmps119]) (by kernel_rfl) H
def wire_Writer_Raw (t0 : Value) (t1 : Value) (h0 : PH) (R : Value → PH → Prop) : Prop :=
 popO (SemP PG (nilS t0)) fun v1 =>
 popO (SemP PG (Instr.fieldAt T_wire_Writer v1 1)) fun v2 =>
 CallsH PG id_strings_Builder_WriteString #[v2, t1] h0 fun v3 h4 =>
 R (Value.tuple #[]) h4
theorem wire_Writer_Raw.call {t0 : Value} {t1 : Value} {h0 : PH} {R : Value → PH → Prop} (H : wire_Writer_Raw t0 t1 h0 R) : CallsH PG id_wire_Writer_Raw #[t0, t1] h0 R :=
  callsF_by (an0 9) 200 mix Tryz.func120 (by kernel_rfl) (by kernel_rfl) (by kernel_rfl) (by kernel_rfl) (by simp [Tryz.ntmps120]) (by kernel_rfl) H
def wire_Writer_Bytes (t0 : Value) (h0 : PH) (R : Value → PH → Prop) : Prop :=
 popO (SemP PG (nilS t0)) fun v1 =>
 popO (SemP PG (Instr.fieldAt T_wire_Writer v1 0)) fun v2 =>
 CallsH PG id_wire_memory_Err #[v2] h0 fun v3 h4 =>
 popO (SemE PG h4 (binS BinOp.neq T_api_Errno (.tmp 9) (.const (Value.int IntKind.i64 0)) v3 (Value.int IntKind.i64 0))) fun v5 =>
 condV v5
 (R (Value.tuple #[(Value.string { data := #[] }), v3]) h4)
 (popO (SemP PG (nilS t0)) fun v6 =>
 popO (SemP PG (Instr.fieldAt T_wire_Writer v6 1)) fun v7 =>
 CallsH PG id_strings_Builder_String #[v7] h4 fun v8 h9 =>
 R (Value.tuple #[v8, (Value.int IntKind.i64 0)]) h9)
theorem wire_Writer_Bytes.call {t0 : Value} {h0 : PH} {R : Value → PH → Prop} (H : wire_Writer_Bytes t0 h0 R) : CallsH PG id_wire_Writer_Bytes #[t0] h0 R :=
  callsF_by (an0 16) 200 mix Tryz.func121 (by kernel_rfl) (by kernel_rfl) (by kernel_rfl) (by kernel_rfl) (by simp [Tryz.ntmps121]) (by kernel_rfl) H
def wire_memory_Err (t0 : Value) (h0 : PH) (R : Value → PH → Prop) : Prop :=
 popO (SemP PG (nilS t0)) fun v1 =>
 popO (SemP PG (Instr.fieldAt T_wire_memory v1 0)) fun v2 =>
 popO (SemE PG h0 (Instr.loadAt T_api_Errno v2)) fun v3 =>
 R v3 h0
theorem wire_memory_Err.call {t0 : Value} {h0 : PH} {R : Value → PH → Prop} (H : wire_memory_Err t0 h0 R) : CallsH PG id_wire_memory_Err #[t0] h0 R :=
  callsF_by (an0 7) 200 mix Tryz.func169 (by kernel_rfl) (by kernel_rfl) (by kernel_rfl) (by kernel_rfl) (by simp [Tryz.ntmps169]) (by kernel_rfl) H
def carrackref13_Side (t0 : Value) (h0 : PH) (R : Value → PH → Prop) : Prop :=
 popO (SemE PG h0 (binS BinOp.eql T_int (.tmp 3) (.const (Value.int IntKind.i64 1)) t0 (Value.int IntKind.i64 1))) fun v1 =>
 condV v1
 (R (Value.int IntKind.i64 1) h0)
 (R (Value.int IntKind.i64 0) h0)
theorem carrackref13_Side.call {t0 : Value} {h0 : PH} {R : Value → PH → Prop} (H : carrackref13_Side t0 h0 R) : CallsH PG id_carrackref13_Side #[t0] h0 R :=
  callsF_by (an0 5) 200 mix Tryz.func29 (by kernel_rfl) (by kernel_rfl) (by kernel_rfl) (by kernel_rfl) (by simp [Tryz.ntmps29]) (by kernel_rfl) H
def chain_Chain_Send (t0 : Value) (t1 : Value) (t2 : Value) (h0 : PH) (R : Value → PH → Prop) : Prop :=
 ∀ r1, h0 r1 = none → bindH (PH.set h0 r1 (.cells (Value.cells t0) T_p_chain_Chain)) fun h2 =>
 ∀ r3, h2 r3 = none → bindH (PH.set h2 r3 (.cells (Value.cells t2) T_uint64)) fun h4 =>
 ∀ r5, h4 r5 = none → bindH (PH.set h4 r5 (.cells (zcells PG T_api_Packet) T_api_Packet)) fun h6 =>
 popO (SemE PG h6 (Instr.loadAt T_p_chain_Chain (Value.pointer (some ⟨r1, 0, none⟩)))) fun v7 =>
 popO (SemP PG (nilS v7)) fun v8 =>
 popO (SemP PG (Instr.fieldAt T_chain_Chain v8 1)) fun v9 =>
 popO (SemE PG h6 (Instr.loadAt T_int v9)) fun v10 =>
 popO (SemE PG h6 (Instr.loadAt T_p_chain_Chain (Value.pointer (some ⟨r1, 0, none⟩)))) fun v11 =>
 popO (SemP PG (nilS v11)) fun v12 =>
 popO (SemP PG (Instr.fieldAt T_chain_Chain v12 3)) fun v13 =>
 popO (SemE PG h6 (Instr.loadAt T_uint64 v13)) fun v14 =>
 popO (SemE PG h6 (Instr.loadAt T_uint64 (Value.pointer (some ⟨r3, 0, none⟩)))) fun v15 =>
 popO (SemP PG (Instr.build T_api_Packet #[(0, v10), (1, v14), (2, v15), (3, t1)])) fun v16 =>
 ∀ r17, h6 r17 = none → bindH (PH.set h6 r17 (.cells (zcells PG T_api_Packet) T_api_Packet)) fun h18 =>
 SemH PG (storeS T_api_Packet (Value.pointer (some ⟨r17, 0, none⟩)) v16) h18 fun v19 h20 =>
 (popO (SemE PG h20 (Instr.loadAt T_p_chain_Chain (Value.pointer (some ⟨r1, 0, none⟩)))) fun v21 =>
 popO (SemP PG (Instr.makeFunc (Fn.func id_chain_Chain_Send_1) #[] #[(Value.pointer (some ⟨r1, 0, none⟩))])) fun v22 =>
 popO (SemP PG (Instr.build T_chain_rule #[(0, v22), (1, (Value.int IntKind.i64 12))])) fun v23 =>
 popO (SemP PG (Instr.makeFunc (Fn.func id_chain_Chain_Send_2) #[] #[(Value.pointer (some ⟨r17, 0, none⟩))])) fun v24 =>
 popO (SemP PG (Instr.build T_chain_rule #[(0, v24), (1, (Value.int IntKind.i64 1))])) fun v25 =>
 popO (SemP PG (Instr.makeFunc (Fn.func id_chain_Chain_Send_3) #[] #[(Value.pointer (some ⟨r3, 0, none⟩)), (Value.pointer (some ⟨r1, 0, none⟩))])) fun v26 =>
 popO (SemP PG (Instr.build T_chain_rule #[(0, v26), (1, (Value.int IntKind.i64 10))])) fun v27 =>
 popO (SemP PG (Instr.makeFunc (Fn.func id_chain_Chain_Send_4) #[] #[(Value.pointer (some ⟨r1, 0, none⟩))])) fun v28 =>
 popO (SemP PG (Instr.build T_chain_rule #[(0, v28), (1, (Value.int IntKind.i64 2))])) fun v29 =>
 popO (SemA PG (Instr.buildSlice T_sl_chain_rule 4 #[(0, v23), (1, v25), (2, v27), (3, v29)])) fun x31 => ∀ r30, h20 r30 = none → popO (SemP PG (x31.2 r30)) fun v32 => bindH (PH.set h20 r30 x31.1) fun h33 =>
 CallsH PG id_chain_Chain_all #[v21, v32] h33 fun v34 h35 =>
 popO (SemE PG h35 (binS BinOp.neq T_api_Errno (.tmp 32) (.const (Value.int IntKind.i64 0)) v34 (Value.int IntKind.i64 0))) fun v36 =>
 condV v36
 (popO (SemP PG (Instr.build T_api_Packet #[])) fun v37 =>
 SemH PG (storeS T_api_Packet (Value.pointer (some ⟨r5, 0, none⟩)) v37) h35 fun v38 h39 =>
 popO (SemE PG h39 (Instr.loadAt T_api_Packet (Value.pointer (some ⟨r5, 0, none⟩)))) fun v40 =>
 R (Value.tuple #[v40, v34]) h39)
 (popO (SemE PG h35 (Instr.loadAt T_p_chain_Chain (Value.pointer (some ⟨r1, 0, none⟩)))) fun v41 =>
 popO (SemP PG (nilS v41)) fun v42 =>
 popO (SemP PG (Instr.fieldAt T_chain_Chain v42 0)) fun v43 =>
 popO (SemP PG (Instr.fieldAt T_api_Packet (Value.pointer (some ⟨r17, 0, none⟩)) 1)) fun v44 =>
 popO (SemE PG h35 (Instr.loadAt T_uint64 v44)) fun v45 =>
 popO (SemE PG h35 (Instr.loadAt T_api_Packet (Value.pointer (some ⟨r17, 0, none⟩)))) fun v46 =>
 CallsH PG id_packet_Sent #[v45] h35 fun v47 h48 =>
 SemE PG h48 (Instr.loadAt T_api_Packet (Value.pointer (some ⟨r17, 0, none⟩))) = some v46 ∧ SemE PG h48 (Instr.loadAt T_p_chain_Chain (Value.pointer (some ⟨r1, 0, none⟩))) = some v41 ∧ (CallsH PG id_packet_Commitment #[v46] h48 fun v49 h50 =>
 SemE PG h50 (Instr.loadAt T_p_chain_Chain (Value.pointer (some ⟨r1, 0, none⟩))) = some v41 ∧ (CallsH PG id_chain_ledger_set #[v43, v47, v49] h50 fun v51 h52 =>
 (popO (SemE PG h52 (Instr.loadAt T_p_chain_Chain (Value.pointer (some ⟨r1, 0, none⟩)))) fun v53 =>
 popO (SemP PG (nilS v53)) fun v54 =>
 popO (SemP PG (Instr.fieldAt T_chain_Chain v54 3)) fun v55 =>
 popO (SemE PG h52 (Instr.loadAt T_uint64 v55)) fun v56 =>
 popO (SemP PG (binOp BinOp.add T_uint64 v56 (Value.int IntKind.u64 1))) fun v57 =>
 popO (SemP PG (nilS v53)) fun v58 =>
 popO (SemP PG (Instr.fieldAt T_chain_Chain v58 3)) fun v59 =>
 SemH PG (storeS T_uint64 v59 v57) h52 fun v60 h61 =>
 popO (SemE PG h61 (Instr.loadAt T_p_chain_Chain (Value.pointer (some ⟨r1, 0, none⟩)))) fun v62 =>
 popO (SemE PG h61 (Instr.loadAt T_api_Packet (Value.pointer (some ⟨r17, 0, none⟩)))) fun v63 =>
 CallsH PG id_chain_Chain_note #[v62, (Value.int IntKind.i64 1), v63] h61 fun v64 h65 =>
 popO (SemE PG h65 (Instr.loadAt T_api_Packet (Value.pointer (some ⟨r17, 0, none⟩)))) fun v66 =>
 SemH PG (storeS T_api_Packet (Value.pointer (some ⟨r5, 0, none⟩)) v66) h65 fun v67 h68 =>
 popO (SemE PG h68 (Instr.loadAt T_api_Packet (Value.pointer (some ⟨r5, 0, none⟩)))) fun v69 =>
 R (Value.tuple #[v69, (Value.int IntKind.i64 0)]) h68)))))
def chain_Chain_Send.ann : Ann := { b := fun i => match i with | 1 => #[0, 1, 3, 7, 0, 16, 48, 112, 0, 0, 1023, 0, 4095] | 5 => #[0, 1, 3, 0, 8, 24, 0, 120, 255] | _ => #[], ord := fun i => match i with | 1 => [0, 1, 2, 3, 4, 5, 6, 7, 8, 9, 10, 11, 12] | 5 => [0, 1, 2, 3, 4, 6, 5, 7, 8] | _ => [], keep := fun i => match i with  | _ => [], n := 56 }
theorem chain_Chain_Send.call {t0 : Value} {t1 : Value} {t2 : Value} {h0 : PH} {R : Value → PH → Prop} (H : chain_Chain_Send t0 t1 t2 h0 R) : CallsH PG id_chain_Chain_Send #[t0, t1, t2] h0 R :=
  callsF_by chain_Chain_Send.ann 200 mix Tryz.func31 (by kernel_rfl) (by kernel_rfl) (by kernel_rfl) (by kernel_rfl) (by simp [Tryz.ntmps31]) (by kernel_rfl) H
def chain_Chain_all_b10 (R : Value → PH → Prop) (n9 : List Value → PH → Prop) (t14 : Value) (t15 : Value) (t16 : Value) (h0 : PH) : Prop :=
 popO (SemP PG (binOp BinOp.lss T_int t16 t15)) fun v11 =>
 condV v11
 (popO (SemP PG (Instr.indexAt T_sl_chain_rule t14 t16)) fun v12 =>
 popO (SemE PG h0 (Instr.loadAt T_chain_rule v12)) fun v13 =>
 ∀ r14, h0 r14 = none → bindH (PH.set h0 r14 (.cells (zcells PG T_chain_rule) T_chain_rule)) fun h15 =>
 SemH PG (storeS T_chain_rule (Value.pointer (some ⟨r14, 0, none⟩)) v13) h15 fun v16 h17 =>
 popO (SemP PG (Instr.fieldAt T_chain_rule (Value.pointer (some ⟨r14, 0, none⟩)) 0)) fun v18 =>
 popO (SemE PG h17 (Instr.loadAt T_func_bool v18)) fun v19 =>
 callC PG v19 #[] h17 fun v20 h21 =>
 popO (SemP PG (Op.unary UnOp.not v20)) fun v22 =>
 condV v22
 (popO (SemP PG (Instr.fieldAt T_chain_rule (Value.pointer (some ⟨r14, 0, none⟩)) 1)) fun v23 =>
 popO (SemE PG h21 (Instr.loadAt T_api_Errno v23)) fun v24 =>
 R v24 h21)
 (popO (SemP PG (binOp BinOp.add T_int t16 (Value.int IntKind.i64 1))) fun v25 =>
 n9 [t14, t15, v25] h21))
 (R (Value.int IntKind.i64 0) h0)
def chain_Chain_all (t0 : Value) (t1 : Value) (h0 : PH) (R : Value → PH → Prop) : Prop :=
 popO (SemP PG (nilS t0)) fun v1 =>
 popO (SemP PG (Instr.fieldAt T_chain_Chain v1 0)) fun v2 =>
 popO (SemP PG (Instr.fieldAt T_chain_ledger v2 0)) fun v3 =>
 popO (SemE PG h0 (Instr.loadAt T_p_store_Store v3)) fun v4 =>
 CallsH PG id_store_Store_Height #[v4] h0 fun v5 h6 =>
 popO (SemE PG h6 (binS BinOp.eql T_uint64 (.tmp 12) (.const (Value.int IntKind.u64 18446744073709551615)) v5 (Value.int IntKind.u64 18446744073709551615))) fun v7 =>
 condV v7
 (R (Value.int IntKind.i64 12) h6)
 (popO (SemP PG (Builtin.len_ #[T_sl_chain_rule] T_int #[t1])) fun v8 =>
 LoopL [14, 15, 16] (fun n9 ρ h => chain_Chain_all_b10 R n9 (ρ 14) (ρ 15) (ρ 16) h) [t1, v8, (Value.int IntKind.i64 0)] h6)
theorem chain_Chain_all.call {t0 : Value} {t1 : Value} {h0 : PH} {R : Value → PH → Prop} (H : chain_Chain_all t0 t1 h0 R) : CallsH PG id_chain_Chain_all #[t0, t1] h0 R :=
  callsF_by (an1 4 [14, 15, 16] 27) 200 mix Tryz.func62 (by kernel_rfl) (by kernel_rfl) (by kernel_rfl) (by kernel_rfl) (by simp [Tryz.ntmps62]) (by kernel_rfl) H
def store_Store_Height (t0 : Value) (h0 : PH) (R : Value → PH → Prop) : Prop :=
 popO (SemP PG (nilS t0)) fun v1 =>
 popO (SemP PG (Instr.fieldAt T_store_Store v1 2)) fun v2 =>
 popO (SemE PG h0 (Instr.loadAt T_uint64 v2)) fun v3 =>
 R v3 h0
theorem store_Store_Height.call {t0 : Value} {h0 : PH} {R : Value → PH → Prop} (H : store_Store_Height t0 h0 R) : CallsH PG id_store_Store_Height #[t0] h0 R :=
  callsF_by (an0 7) 200 mix Tryz.func14 (by kernel_rfl) (by kernel_rfl) (by kernel_rfl) (by kernel_rfl) (by simp [Tryz.ntmps14]) (by kernel_rfl) H
def chain_Chain_Send_1 (t0 : Value) (h0 : PH) (R : Value → PH → Prop) : Prop :=
 popO (SemE PG h0 (Instr.loadAt T_p_chain_Chain t0)) fun v1 =>
 popO (SemP PG (nilS v1)) fun v2 =>
 popO (SemP PG (Instr.fieldAt T_chain_Chain v2 3)) fun v3 =>
 popO (SemE PG h0 (Instr.loadAt T_uint64 v3)) fun v4 =>
 popO (SemP PG (binOp BinOp.lss T_uint64 v4 (Value.int IntKind.u64 18446744073709551615))) fun v5 =>
 R v5 h0
theorem chain_Chain_Send_1.call {t0 : Value} {h0 : PH} {R : Value → PH → Prop} (H : chain_Chain_Send_1 t0 h0 R) : CallsH PG id_chain_Chain_Send_1 #[t0] h0 R :=
  callsF_by (an0 7) 200 mix Tryz.func63 (by kernel_rfl) (by kernel_rfl) (by kernel_rfl) (by kernel_rfl) (by simp [Tryz.ntmps63]) (by kernel_rfl) H
def chain_Chain_Send_2 (t0 : Value) (h0 : PH) (R : Value → PH → Prop) : Prop :=
 popO (SemE PG h0 (Instr.loadAt T_api_Packet t0)) fun v1 =>
 CallsH PG id_packet_Check #[v1] h0 fun v2 h3 =>
 popO (SemE PG h3 (binS BinOp.eql T_api_Errno (.tmp 3) (.const (Value.int IntKind.i64 0)) v2 (Value.int IntKind.i64 0))) fun v4 =>
 R v4 h3
theorem chain_Chain_Send_2.call {t0 : Value} {h0 : PH} {R : Value → PH → Prop} (H : chain_Chain_Send_2 t0 h0 R) : CallsH PG id_chain_Chain_Send_2 #[t0] h0 R :=
  callsF_by (an0 5) 200 mix Tryz.func64 (by kernel_rfl) (by kernel_rfl) (by kernel_rfl) (by kernel_rfl) (by simp [Tryz.ntmps64]) (by kernel_rfl) H
def packet_Check (t0 : Value) (h0 : PH) (R : Value → PH → Prop) : Prop :=
 ∀ r1, h0 r1 = none → bindH (PH.set h0 r1 (.cells (Value.cells t0) T_api_Packet)) fun h2 =>
 popO (SemP PG (Instr.fieldAt T_api_Packet (Value.pointer (some ⟨r1, 0, none⟩)) 0)) fun v3 =>
 popO (SemE PG h2 (Instr.loadAt T_int v3)) fun v4 =>
 popO (SemP PG (binOp BinOp.lss T_int v4 (Value.int IntKind.i64 0))) fun v5 =>
 gopV (yV v5) false (fun k8 => popO (SemP PG (Instr.fieldAt T_api_Packet (Value.pointer (some ⟨r1, 0, none⟩)) 0)) fun v9 => k8 v9 h2) h2 fun v6 h7 =>
 gopV (yV v5) false (fun k12 => popO (SemE PG h7 (Instr.loadAt T_int v6)) fun v13 => k12 v13 h7) h7 fun v10 h11 =>
 gopV (yV v5) false (fun k16 => popO (SemP PG (binOp BinOp.gtr T_int v10 (Value.int IntKind.i64 1))) fun v17 => k16 v17 h11) h11 fun v14 h15 =>
 popO (pickV v5 (Value.bool true) v14) fun v18 =>
 gopV (yV v18) false (fun k21 => popO (SemP PG (Instr.fieldAt T_api_Packet (Value.pointer (some ⟨r1, 0, none⟩)) 1)) fun v22 => k21 v22 h15) h15 fun v19 h20 =>
 gopV (yV v18) false (fun k25 => popO (SemE PG h20 (Instr.loadAt T_uint64 v19)) fun v26 => k25 v26 h20) h20 fun v23 h24 =>
 gopV (yV v18) false (fun k29 => popO (SemE PG h24 (binS BinOp.eql T_uint64 (.tmp 13) (.const (Value.int IntKind.u64 0)) v23 (Value.int IntKind.u64 0))) fun v30 => k29 v30 h24) h24 fun v27 h28 =>
 popO (pickV v18 (Value.bool true) v27) fun v31 =>
 gopV (yV v31) false (fun k34 => popO (SemP PG (Instr.fieldAt T_api_Packet (Value.pointer (some ⟨r1, 0, none⟩)) 2)) fun v35 => k34 v35 h28) h28 fun v32 h33 =>
 gopV (yV v31) false (fun k38 => popO (SemE PG h33 (Instr.loadAt T_uint64 v32)) fun v39 => k38 v39 h33) h33 fun v36 h37 =>
 gopV (yV v31) false (fun k42 => popO (SemE PG h37 (binS BinOp.eql T_uint64 (.tmp 18) (.const (Value.int IntKind.u64 0)) v36 (Value.int IntKind.u64 0))) fun v43 => k42 v43 h37) h37 fun v40 h41 =>
 popO (pickV v31 (Value.bool true) v40) fun v44 =>
 gopV (yV v44) false (fun k47 => popO (SemP PG (Instr.fieldAt T_api_Packet (Value.pointer (some ⟨r1, 0, none⟩)) 3)) fun v48 => k47 v48 h41) h41 fun v45 h46 =>
 gopV (yV v44) false (fun k51 => popO (SemE PG h46 (Instr.loadAt T_string v45)) fun v52 => k51 v52 h46) h46 fun v49 h50 =>
 gopV (yV v44) false (fun k55 => popO (SemP PG (Builtin.len_ #[T_string] T_int #[v49])) fun v56 => k55 v56 h50) h50 fun v53 h54 =>
 gopV (yV v44) false (fun k59 => popO (SemP PG (binOp BinOp.gtr T_int v53 (Value.int IntKind.i64 64))) fun v60 => k59 v60 h54) h54 fun v57 h58 =>
 popO (pickV v44 (Value.bool true) v57) fun v61 =>
 condV v61
 (R (Value.int IntKind.i64 1) h58)
 (R (Value.int IntKind.i64 0) h58)
theorem packet_Check.call {t0 : Value} {h0 : PH} {R : Value → PH → Prop} (H : packet_Check t0 h0 R) : CallsH PG id_packet_Check #[t0] h0 R :=
  callsF_by (an0 27) 200 mix Tryz.func24 (by kernel_rfl) (by kernel_rfl) (by kernel_rfl) (by kernel_rfl) (by simp [Tryz.ntmps24]) (by kernel_rfl) H
def chain_Chain_Send_3 (t0 : Value) (t1 : Value) (h0 : PH) (R : Value → PH → Prop) : Prop :=
 popO (SemE PG h0 (Instr.loadAt T_uint64 t0)) fun v1 =>
 popO (SemE PG h0 (Instr.loadAt T_p_chain_Chain t1)) fun v2 =>
 popO (SemP PG (nilS v2)) fun v3 =>
 popO (SemP PG (Instr.fieldAt T_chain_Chain v3 2)) fun v4 =>
 popO (SemE PG h0 (Instr.loadAt T_p_client_Client v4)) fun v5 =>
 CallsH PG id_client_Client_Latest #[v5] h0 fun v6 h7 =>
 SemE PG h7 (Instr.loadAt T_uint64 t0) = some v1 ∧ (popO (SemP PG (binOp BinOp.gtr T_uint64 v1 v6)) fun v8 =>
 R v8 h7)
def chain_Chain_Send_3.ann : Ann := { b := fun i => match i with | 1 => #[0, 0, 2, 6, 14, 30, 63, 127] | _ => #[], ord := fun i => match i with | 1 => [0, 1, 2, 3, 4, 5, 6, 7] | _ => [], keep := fun i => match i with  | _ => [], n := 10 }
theorem chain_Chain_Send_3.call {t0 : Value} {t1 : Value} {h0 : PH} {R : Value → PH → Prop} (H : chain_Chain_Send_3 t0 t1 h0 R) : CallsH PG id_chain_Chain_Send_3 #[t0, t1] h0 R :=
  callsF_by chain_Chain_Send_3.ann 200 mix Tryz.func65 (by kernel_rfl) (by kernel_rfl) (by kernel_rfl) (by kernel_rfl) (by simp [Tryz.ntmps65]) (by kernel_rfl) H
def client_Client_Latest (t0 : Value) (h0 : PH) (R : Value → PH → Prop) : Prop :=
 popO (SemP PG (nilS t0)) fun v1 =>
 popO (SemP PG (Instr.fieldAt T_client_Client v1 1)) fun v2 =>
 popO (SemE PG h0 (Instr.loadAt T_sl_uint64 v2)) fun v3 =>
 popO (SemP PG (Builtin.len_ #[T_sl_uint64] T_int #[v3])) fun v4 =>
 popO (SemE PG h0 (binS BinOp.eql T_int (.tmp 7) (.const (Value.int IntKind.i64 0)) v4 (Value.int IntKind.i64 0))) fun v5 =>
 condV v5
 (R (Value.int IntKind.u64 0) h0)
 (popO (SemP PG (nilS t0)) fun v6 =>
 popO (SemP PG (Instr.fieldAt T_client_Client v6 1)) fun v7 =>
 popO (SemE PG h0 (Instr.loadAt T_sl_uint64 v7)) fun v8 =>
 popO (SemP PG (nilS t0)) fun v9 =>
 popO (SemP PG (Instr.fieldAt T_client_Client v9 1)) fun v10 =>
 popO (SemE PG h0 (Instr.loadAt T_sl_uint64 v10)) fun v11 =>
 popO (SemP PG (Builtin.len_ #[T_sl_uint64] T_int #[v11])) fun v12 =>
 popO (SemP PG (binOp BinOp.sub T_int v12 (Value.int IntKind.i64 1))) fun v13 =>
 popO (SemP PG (Instr.indexAt T_sl_uint64 v8 v13)) fun v14 =>
 popO (SemE PG h0 (Instr.loadAt T_uint64 v14)) fun v15 =>
 R v15 h0)
def client_Client_Latest.ann : Ann := { b := fun i => match i with | 3 => #[0, 1, 3, 7, 0, 16, 48, 112, 240, 496, 1023, 2047, 4095] | _ => #[], ord := fun i => match i with | 3 => [0, 1, 2, 3, 4, 5, 6, 7, 8, 9, 10, 11, 12] | _ => [], keep := fun i => match i with  | _ => [], n := 21 }
theorem client_Client_Latest.call {t0 : Value} {h0 : PH} {R : Value → PH → Prop} (H : client_Client_Latest t0 h0 R) : CallsH PG id_client_Client_Latest #[t0] h0 R :=
  callsF_by client_Client_Latest.ann 200 mix Tryz.func66 (by kernel_rfl) (by kernel_rfl) (by kernel_rfl) (by kernel_rfl) (by simp [Tryz.ntmps66]) (by kernel_rfl) H
def chain_Chain_Send_4 (t0 : Value) (h0 : PH) (R : Value → PH → Prop) : Prop :=
 popO (SemE PG h0 (Instr.loadAt T_p_chain_Chain t0)) fun v1 =>
 popO (SemP PG (nilS v1)) fun v2 =>
 popO (SemP PG (Instr.fieldAt T_chain_Chain v2 0)) fun v3 =>
 CallsH PG id_chain_ledger_room #[v3, (Value.int IntKind.i64 1)] h0 fun v4 h5 =>
 R v4 h5
theorem chain_Chain_Send_4.call {t0 : Value} {h0 : PH} {R : Value → PH → Prop} (H : chain_Chain_Send_4 t0 h0 R) : CallsH PG id_chain_Chain_Send_4 #[t0] h0 R :=
  callsF_by (an0 6) 200 mix Tryz.func67 (by kernel_rfl) (by kernel_rfl) (by kernel_rfl) (by kernel_rfl) (by simp [Tryz.ntmps67]) (by kernel_rfl) H
def chain_ledger_room (t0 : Value) (t1 : Value) (h0 : PH) (R : Value → PH → Prop) : Prop :=
 popO (SemP PG (nilS t0)) fun v1 =>
 popO (SemP PG (Instr.fieldAt T_chain_ledger v1 0)) fun v2 =>
 popO (SemE PG h0 (Instr.loadAt T_p_store_Store v2)) fun v3 =>
 CallsH PG id_store_Store_Len #[v3] h0 fun v4 h5 =>
 popO (SemP PG (binOp BinOp.add T_int v4 t1)) fun v6 =>
 popO (SemP PG (binOp BinOp.leq T_int v6 (Value.int IntKind.i64 4096))) fun v7 =>
 R v7 h5
theorem chain_ledger_room.call {t0 : Value} {t1 : Value} {h0 : PH} {R : Value → PH → Prop} (H : chain_ledger_room t0 t1 h0 R) : CallsH PG id_chain_ledger_room #[t0, t1] h0 R :=
  callsF_by (an0 13) 200 mix Tryz.func68 (by kernel_rfl) (by kernel_rfl) (by kernel_rfl) (by kernel_rfl) (by simp [Tryz.ntmps68]) (by kernel_rfl) H
def store_Store_Len (t0 : Value) (h0 : PH) (R : Value → PH → Prop) : Prop :=
 popO (SemP PG (nilS t0)) fun v1 =>
 popO (SemP PG (Instr.fieldAt T_store_Store v1 0)) fun v2 =>
 popO (SemE PG h0 (Instr.loadAt T_map_string_string v2)) fun v3 =>
 popO (SemE PG h0 (Builtin.len_ #[T_map_string_string] T_int #[v3])) fun v4 =>
 R v4 h0
theorem store_Store_Len.call {t0 : Value} {h0 : PH} {R : Value → PH → Prop} (H : store_Store_Len t0 h0 R) : CallsH PG id_store_Store_Len #[t0] h0 R :=
  callsF_by (an0 8) 200 mix Tryz.func134 (by kernel_rfl) (by kernel_rfl) (by kernel_rfl) (by kernel_rfl) (by simp [Tryz.ntmps134]) (by kernel_rfl) H
def chain_ledger_set (t0 : Value) (t1 : Value) (t2 : Value) (h0 : PH) (R : Value → PH → Prop) : Prop :=
 popO (SemP PG (nilS t0)) fun v1 =>
 popO (SemP PG (Instr.fieldAt T_chain_ledger v1 4)) fun v2 =>
 popO (SemE PG h0 (Instr.loadAt T_map_string_string v2)) fun v3 =>
 SemH PG (mapUpdS T_map_string_string v3 t1 t2) h0 fun v4 h5 =>
 popO (SemP PG (nilS t0)) fun v6 =>
 popO (SemP PG (Instr.fieldAt T_chain_ledger v6 0)) fun v7 =>
 popO (SemE PG h5 (Instr.loadAt T_p_store_Store v7)) fun v8 =>
 CallsH PG id_store_Store_Set #[v8, t1, t2] h5 fun v9 h10 =>
 R (Value.tuple #[]) h10
theorem chain_ledger_set.call {t0 : Value} {t1 : Value} {t2 : Value} {h0 : PH} {R : Value → PH → Prop} (H : chain_ledger_set t0 t1 t2 h0 R) : CallsH PG id_chain_ledger_set #[t0, t1, t2] h0 R :=
  callsF_by (an0 19) 200 mix Tryz.func69 (by kernel_rfl) (by kernel_rfl) (by kernel_rfl) (by kernel_rfl) (by simp [Tryz.ntmps69]) (by kernel_rfl) H
def store_Store_Set (t0 : Value) (t1 : Value) (t2 : Value) (h0 : PH) (R : Value → PH → Prop) : Prop :=
 popO (SemP PG (Builtin.len_ #[T_string] T_int #[t1])) fun v1 =>
 popO (SemP PG (binOp BinOp.lss T_int v1 (Value.int IntKind.i64 1))) fun v2 =>
 gopV (yV v2) false (fun k5 => k5 t1 h0) h0 fun v3 h4 =>
 gopV (yV v2) false (fun k8 => popO (SemP PG (Builtin.len_ #[T_string] T_int #[v3])) fun v9 => k8 v9 h4) h4 fun v6 h7 =>
 gopV (yV v2) false (fun k12 => popO (SemP PG (binOp BinOp.gtr T_int v6 (Value.int IntKind.i64 16))) fun v13 => k12 v13 h7) h7 fun v10 h11 =>
 popO (pickV v2 (Value.bool true) v10) fun v14 =>
 gopV (yV v14) false (fun k17 => k17 t2 h11) h11 fun v15 h16 =>
 gopV (yV v14) false (fun k20 => popO (SemP PG (Builtin.len_ #[T_string] T_int #[v15])) fun v21 => k20 v21 h16) h16 fun v18 h19 =>
 gopV (yV v14) false (fun k24 => popO (SemP PG (binOp BinOp.gtr T_int v18 (Value.int IntKind.i64 64))) fun v25 => k24 v25 h19) h19 fun v22 h23 =>
 popO (pickV v14 (Value.bool true) v22) fun v26 =>
 condV v26
 (R (Value.int IntKind.i64 1) h23)
 (popO (SemP PG (nilS t0)) fun v27 =>
 popO (SemP PG (Instr.fieldAt T_store_Store v27 0)) fun v28 =>
 popO (SemE PG h23 (Instr.loadAt T_map_string_string v28)) fun v29 =>
 popO (SemE PG h23 (Instr.lookup T_map_string_string v29 t1 true)) fun v30 =>
 popO (SemP PG (Instr.extract v30 0)) fun v31 =>
 popO (SemP PG (Instr.extract v30 1)) fun v32 =>
 popO (SemP PG (Op.unary UnOp.not v32)) fun v33 =>
 gopV (yV v33) true (fun k36 => k36 t0 h23) h23 fun v34 h35 =>
 gopV (yV v33) true (fun k39 => popO (SemP PG (nilS v34)) fun v40 => k39 v40 h35) h35 fun v37 h38 =>
 gopV (yV v33) true (fun k43 => popO (SemP PG (Instr.fieldAt T_store_Store v37 0)) fun v44 => k43 v44 h38) h38 fun v41 h42 =>
 gopV (yV v33) true (fun k47 => popO (SemE PG h42 (Instr.loadAt T_map_string_string v41)) fun v48 => k47 v48 h42) h42 fun v45 h46 =>
 gopV (yV v33) true (fun k51 => popO (SemE PG h46 (Builtin.len_ #[T_map_string_string] T_int #[v45])) fun v52 => k51 v52 h46) h46 fun v49 h50 =>
 gopV (yV v33) true (fun k55 => popO (SemP PG (binOp BinOp.geq T_int v49 (Value.int IntKind.i64 4096))) fun v56 => k55 v56 h50) h50 fun v53 h54 =>
 popO (pickV v33 v53 (Value.bool false)) fun v57 =>
 condV v57
 (R (Value.int IntKind.i64 2) h54)
 (popO (SemP PG (nilS t0)) fun v58 =>
 popO (SemP PG (Instr.fieldAt T_store_Store v58 0)) fun v59 =>
 popO (SemE PG h54 (Instr.loadAt T_map_string_string v59)) fun v60 =>
 SemH PG (mapUpdS T_map_string_string v60 t1 t2) h54 fun v61 h62 =>
 R (Value.int IntKind.i64 0) h62))
theorem store_Store_Set.call {t0 : Value} {t1 : Value} {t2 : Value} {h0 : PH} {R : Value → PH → Prop} (H : store_Store_Set t0 t1 t2 h0 R) : CallsH PG id_store_Store_Set #[t0, t1, t2] h0 R :=
  callsF_by (an0 47) 200 mix Tryz.func135 (by kernel_rfl) (by kernel_rfl) (by kernel_rfl) (by kernel_rfl) (by simp [Tryz.ntmps135]) (by kernel_rfl) H
def packet_Sent (t0 : Value) (h0 : PH) (R : Value → PH → Prop) : Prop :=
 CallsH PG id_packet_key #[(Value.string { data := #[99] }), t0] h0 fun v1 h2 =>
 R v1 h2
theorem packet_Sent.call {t0 : Value} {h0 : PH} {R : Value → PH → Prop} (H : packet_Sent t0 h0 R) : CallsH PG id_packet_Sent #[t0] h0 R :=
  callsF_by (an0 5) 200 mix Tryz.func70 (by kernel_rfl) (by kernel_rfl) (by kernel_rfl) (by kernel_rfl) (by simp [Tryz.ntmps70]) (by kernel_rfl) H
def packet_key (t0 : Value) (t1 : Value) (h0 : PH) (R : Value → PH → Prop) : Prop :=
 ∀ r1, h0 r1 = none → bindH (PH.set h0 r1 (.cells (zcells PG T_wire_Writer) T_wire_Writer)) fun h2 =>
 CallsH PG id_wire_Writer_Raw #[(Value.pointer (some ⟨r1, 0, none⟩)), t0] h2 fun v3 h4 =>
 CallsH PG id_wire_Writer_Number #[(Value.pointer (some ⟨r1, 0, none⟩)), t1] h4 fun v5 h6 =>
 CallsH PG id_wire_Writer_Bytes #[(Value.pointer (some ⟨r1, 0, none⟩))] h6 fun v7 h8 =>
 popO (SemP PG (Instr.extract v7 0)) fun v9 =>
 popO (SemP PG (Instr.extract v7 1)) fun v10 =>
 R v9 h8
theorem packet_key.call {t0 : Value} {t1 : Value} {h0 : PH} {R : Value → PH → Prop} (H : packet_key t0 t1 h0 R) : CallsH PG id_packet_key #[t0, t1] h0 R :=
  callsF_by (an0 17) 200 mix Tryz.func136 (by kernel_rfl) (by kernel_rfl) (by kernel_rfl) (by kernel_rfl) (by simp [Tryz.ntmps136]) (by kernel_rfl) H
def packet_Commitment (t0 : Value) (h0 : PH) (R : Value → PH → Prop) : Prop :=
 ∀ r1, h0 r1 = none → bindH (PH.set h0 r1 (.cells (Value.cells t0) T_api_Packet)) fun h2 =>
 popO (SemE PG h2 (Instr.loadAt T_api_Packet (Value.pointer (some ⟨r1, 0, none⟩)))) fun v3 =>
 CallsH PG id_packet_digest #[v3, (Value.slice none 0 0)] h2 fun v4 h5 =>
 R v4 h5
theorem packet_Commitment.call {t0 : Value} {h0 : PH} {R : Value → PH → Prop} (H : packet_Commitment t0 h0 R) : CallsH PG id_packet_Commitment #[t0] h0 R :=
  callsF_by (an0 5) 200 mix Tryz.func71 (by kernel_rfl) (by kernel_rfl) (by kernel_rfl) (by kernel_rfl) (by simp [Tryz.ntmps71]) (by kernel_rfl) H
def packet_digest (t0 : Value) (t1 : Value) (h0 : PH) (R : Value → PH → Prop) : Prop :=
 ∀ r1, h0 r1 = none → bindH (PH.set h0 r1 (.cells (Value.cells t0) T_api_Packet)) fun h2 =>
 popO (SemE PG h2 (Instr.loadAt T_api_Packet (Value.pointer (some ⟨r1, 0, none⟩)))) fun v3 =>
 CallsH PG id_packet_Bytes #[v3] h2 fun v4 h5 =>
 popO (SemP PG (Instr.extract v4 0)) fun v6 =>
 popO (SemP PG (Instr.extract v4 1)) fun v7 =>
 popO (SemE PG h5 (binS BinOp.neq T_api_Errno (.tmp 12) (.const (Value.int IntKind.i64 0)) v7 (Value.int IntKind.i64 0))) fun v8 =>
 gopV (yV v8) false (fun k11 => popO (SemE PG h5 (Instr.loadAt T_api_Packet (Value.pointer (some ⟨r1, 0, none⟩)))) fun v12 => k11 v12 h5) h5 fun v9 h10 =>
 gopV (yV v8) false (fun k15 => popO (SemP PG (Instr.build T_api_Packet #[])) fun v16 => k15 v16 h10) h10 fun v13 h14 =>
 gopV (yV v8) false (fun k19 => popO (SemE PG h14 (binS BinOp.eql T_api_Packet (.tmp 15) (.tmp 16) v9 v13)) fun v20 => k19 v20 h14) h14 fun v17 h18 =>
 popO (pickV v8 (Value.bool true) v17) fun v21 =>
 condV v21
 (R (Value.string { data := #[] }) h18)
 (popO (SemA PG (Instr.buildSlice T_sl_string 1 #[(0, v6)])) fun x23 => ∀ r22, h18 r22 = none → popO (SemP PG (x23.2 r22)) fun v24 => bindH (PH.set h18 r22 x23.1) fun h25 =>
 SemH PG (Builtin.append_ #[T_sl_string, T_sl_string] T_sl_string #[t1, v24]) h25 fun v26 h27 =>
 CallsH PG id_sha_Sum #[v26] h27 fun v28 h29 =>
 R v28 h29)
theorem packet_digest.call {t0 : Value} {t1 : Value} {h0 : PH} {R : Value → PH → Prop} (H : packet_digest t0 t1 h0 R) : CallsH PG id_packet_digest #[t0, t1] h0 R :=
  callsF_by (an0 24) 200 mix Tryz.func137 (by kernel_rfl) (by kernel_rfl) (by kernel_rfl) (by kernel_rfl) (by simp [Tryz.ntmps137]) (by kernel_rfl) H
def packet_Bytes (t0 : Value) (h0 : PH) (R : Value → PH → Prop) : Prop :=
 ∀ r1, h0 r1 = none → bindH (PH.set h0 r1 (.cells (Value.cells t0) T_api_Packet)) fun h2 =>
 ∀ r3, h2 r3 = none → bindH (PH.set h2 r3 (.cells (zcells PG T_wire_Writer) T_wire_Writer)) fun h4 =>
 popO (SemE PG h4 (Instr.loadAt T_api_Packet (Value.pointer (some ⟨r1, 0, none⟩)))) fun v5 =>
 CallsH PG id_packet_Put #[(Value.pointer (some ⟨r3, 0, none⟩)), v5] h4 fun v6 h7 =>
 CallsH PG id_wire_Writer_Bytes #[(Value.pointer (some ⟨r3, 0, none⟩))] h7 fun v8 h9 =>
 popO (SemP PG (Instr.extract v8 0)) fun v10 =>
 popO (SemP PG (Instr.extract v8 1)) fun v11 =>
 R (Value.tuple #[v10, v11]) h9
theorem packet_Bytes.call {t0 : Value} {h0 : PH} {R : Value → PH → Prop} (H : packet_Bytes t0 h0 R) : CallsH PG id_packet_Bytes #[t0] h0 R :=
  callsF_by (an0 10) 200 mix Tryz.func192 (by kernel_rfl) (by kernel_rfl) (by kernel_rfl) (by kernel_rfl) (by simp [Tryz.ntmps192]) (by kernel_rfl) H
def packet_Put (t0 : Value) (t1 : Value) (h0 : PH) (R : Value → PH → Prop) : Prop :=
 ∀ r1, h0 r1 = none → bindH (PH.set h0 r1 (.cells (Value.cells t1) T_api_Packet)) fun h2 =>
 popO (SemE PG h2 (Instr.loadAt T_api_Packet (Value.pointer (some ⟨r1, 0, none⟩)))) fun v3 =>
 CallsH PG id_packet_Check #[v3] h2 fun v4 h5 =>
 popO (SemE PG h5 (binS BinOp.neq T_api_Errno (.tmp 5) (.const (Value.int IntKind.i64 0)) v4 (Value.int IntKind.i64 0))) fun v6 =>
 condV v6
 (CallsH PG id_wire_Writer_Byte #[t0, (Value.int IntKind.i64 (-1))] h5 fun v7 h8 =>
 R (Value.tuple #[]) h8)
 (popO (SemP PG (Instr.fieldAt T_api_Packet (Value.pointer (some ⟨r1, 0, none⟩)) 0)) fun v9 =>
 popO (SemE PG h5 (Instr.loadAt T_int v9)) fun v10 =>
 CallsH PG id_wire_Writer_Byte #[t0, v10] h5 fun v11 h12 =>
 popO (SemP PG (Instr.fieldAt T_api_Packet (Value.pointer (some ⟨r1, 0, none⟩)) 1)) fun v13 =>
 popO (SemE PG h12 (Instr.loadAt T_uint64 v13)) fun v14 =>
 CallsH PG id_wire_Writer_Number #[t0, v14] h12 fun v15 h16 =>
 popO (SemP PG (Instr.fieldAt T_api_Packet (Value.pointer (some ⟨r1, 0, none⟩)) 2)) fun v17 =>
 popO (SemE PG h16 (Instr.loadAt T_uint64 v17)) fun v18 =>
 CallsH PG id_wire_Writer_Number #[t0, v18] h16 fun v19 h20 =>
 popO (SemP PG (Instr.fieldAt T_api_Packet (Value.pointer (some ⟨r1, 0, none⟩)) 3)) fun v21 =>
 popO (SemE PG h20 (Instr.loadAt T_string v21)) fun v22 =>
 CallsH PG id_wire_Writer_Text #[t0, v22] h20 fun v23 h24 =>
 R (Value.tuple #[]) h24)
theorem packet_Put.call {t0 : Value} {t1 : Value} {h0 : PH} {R : Value → PH → Prop} (H : packet_Put t0 t1 h0 R) : CallsH PG id_packet_Put #[t0, t1] h0 R :=
  callsF_by (an0 25) 200 mix Tryz.func220 (by kernel_rfl) (by kernel_rfl) (by kernel_rfl) (by kernel_rfl) (by simp [Tryz.ntmps220]) (by kernel_rfl) H
def chain_Chain_note (t0 : Value) (t1 : Value) (t2 : Value) (h0 : PH) (R : Value → PH → Prop) : Prop :=
 ∀ r1, h0 r1 = none → bindH (PH.set h0 r1 (.cells (Value.cells t2) T_api_Packet)) fun h2 =>
 popO (SemP PG (nilS t0)) fun v3 =>
 popO (SemP PG (Instr.fieldAt T_chain_Chain v3 0)) fun v4 =>
 popO (SemP PG (Instr.fieldAt T_chain_ledger v4 3)) fun v5 =>
 popO (SemE PG h2 (Instr.loadAt T_sl_api_Note v5)) fun v6 =>
 popO (SemE PG h2 (Instr.loadAt T_api_Packet (Value.pointer (some ⟨r1, 0, none⟩)))) fun v7 =>
 popO (SemP PG (Instr.build T_api_Note #[(0, t1), (1, v7)])) fun v8 =>
 popO (SemA PG (Instr.buildSlice T_sl_api_Note 1 #[(0, v8)])) fun x10 => ∀ r9, h2 r9 = none → popO (SemP PG (x10.2 r9)) fun v11 => bindH (PH.set h2 r9 x10.1) fun h12 =>
 SemH PG (Builtin.append_ #[T_sl_api_Note, T_sl_api_Note] T_sl_api_Note #[v6, v11]) h12 fun v13 h14 =>
 (popO (SemP PG (nilS t0)) fun v15 =>
 popO (SemP PG (Instr.fieldAt T_chain_Chain v15 0)) fun v16 =>
 popO (SemP PG (Instr.fieldAt T_chain_ledger v16 3)) fun v17 =>
 SemH PG (storeS T_sl_api_Note v17 v13) h14 fun v18 h19 =>
 (R (Value.tuple #[]) h19))
def chain_Chain_note.ann : Ann := { b := fun i => match i with | 1 => #[0, 0, 2, 6, 14, 30, 0, 0, 192, 448, 1022, 2047, 4095, 8191, 16383] | _ => #[], ord := fun i => match i with | 1 => [0, 1, 2, 3, 4, 5, 6, 7, 8, 9, 10, 11, 12, 13, 14] | _ => [], keep := fun i => match i with  | _ => [], n := 20 }
theorem chain_Chain_note.call {t0 : Value} {t1 : Value} {t2 : Value} {h0 : PH} {R : Value → PH → Prop} (H : chain_Chain_note t0 t1 t2 h0 R) : CallsH PG id_chain_Chain_note #[t0, t1, t2] h0 R :=
  callsF_by chain_Chain_note.ann 200 mix Tryz.func72 (by kernel_rfl) (by kernel_rfl) (by kernel_rfl) (by kernel_rfl) (by simp [Tryz.ntmps72]) (by kernel_rfl) H
def carrackref13_Act_Key (t0 : Value) (h0 : PH) (R : Value → PH → Prop) : Prop :=
 ∀ r1, h0 r1 = none → bindH (PH.set h0 r1 (.cells (Value.cells t0) T_carrackref13_Act)) fun h2 =>
 popO (SemP PG (Instr.fieldAt T_carrackref13_Act (Value.pointer (some ⟨r1, 0, none⟩)) 0)) fun v3 =>
 popO (SemE PG h2 (Instr.loadAt T_int v3)) fun v4 =>
 popO (SemE PG h2 (binS BinOp.eql T_int (.tmp 4) (.const (Value.int IntKind.i64 2)) v4 (Value.int IntKind.i64 2))) fun v5 =>
 condV v5
 (popO (SemP PG (Instr.fieldAt T_carrackref13_Act (Value.pointer (some ⟨r1, 0, none⟩)) 4)) fun v6 =>
 popO (SemP PG (Instr.fieldAt T_api_Packet v6 1)) fun v7 =>
 popO (SemE PG h2 (Instr.loadAt T_uint64 v7)) fun v8 =>
 CallsH PG id_carrackref10_Key #[(Value.string { data := #[99] }), v8] h2 fun v9 h10 =>
 R v9 h10)
 (popO (SemE PG h2 (binS BinOp.eql T_int (.tmp 4) (.const (Value.int IntKind.i64 3)) v4 (Value.int IntKind.i64 3))) fun v11 =>
 condV v11
 (popO (SemP PG (Instr.fieldAt T_carrackref13_Act (Value.pointer (some ⟨r1, 0, none⟩)) 4)) fun v12 =>
 popO (SemP PG (Instr.fieldAt T_api_Packet v12 1)) fun v13 =>
 popO (SemE PG h2 (Instr.loadAt T_uint64 v13)) fun v14 =>
 CallsH PG id_carrackref10_Key #[(Value.string { data := #[97] }), v14] h2 fun v15 h16 =>
 R v15 h16)
 (popO (SemP PG (Instr.fieldAt T_carrackref13_Act (Value.pointer (some ⟨r1, 0, none⟩)) 4)) fun v17 =>
 popO (SemP PG (Instr.fieldAt T_api_Packet v17 1)) fun v18 =>
 popO (SemE PG h2 (Instr.loadAt T_uint64 v18)) fun v19 =>
 CallsH PG id_carrackref10_Key #[(Value.string { data := #[114] }), v19] h2 fun v20 h21 =>
 R v20 h21))
theorem carrackref13_Act_Key.call {t0 : Value} {h0 : PH} {R : Value → PH → Prop} (H : carrackref13_Act_Key t0 h0 R) : CallsH PG id_carrackref13_Act_Key #[t0] h0 R :=
  callsF_by (an0 21) 200 mix Tryz.func34 (by kernel_rfl) (by kernel_rfl) (by kernel_rfl) (by kernel_rfl) (by simp [Tryz.ntmps34]) (by kernel_rfl) H
def carrackref10_Key (t0 : Value) (t1 : Value) (h0 : PH) (R : Value → PH → Prop) : Prop :=
 CallsH PG id_carrackref03_Bytes #[t1, (Value.int IntKind.i64 8)] h0 fun v1 h2 =>
 popO (SemP PG (binOp BinOp.add T_string t0 v1)) fun v3 =>
 R v3 h2
theorem carrackref10_Key.call {t0 : Value} {t1 : Value} {h0 : PH} {R : Value → PH → Prop} (H : carrackref10_Key t0 t1 h0 R) : CallsH PG id_carrackref10_Key #[t0, t1] h0 R :=
  callsF_by (an0 9) 200 mix Tryz.func75 (by kernel_rfl) (by kernel_rfl) (by kernel_rfl) (by kernel_rfl) (by simp [Tryz.ntmps75]) (by kernel_rfl) H
def carrackref03_Bytes_b2 (R : Value → PH → Prop) (n1 : List Value → PH → Prop) (t0 : Value) (t1 : Value) (t5 : Value) (t6 : Value) (h0 : PH) : Prop :=
 popO (SemP PG (binOp BinOp.lss T_int t6 t1)) fun v3 =>
 condV v3
 (popO (SemP PG (binOp BinOp.rem T_uint64 t0 (Value.int IntKind.u64 256))) fun v4 =>
 popO (SemP PG (convert T_uint64 T_uint8 v4)) fun v5 =>
 popO (SemA PG (Instr.buildSlice T_sl_uint8 1 #[(0, v5)])) fun x7 => ∀ r6, h0 r6 = none → popO (SemP PG (x7.2 r6)) fun v8 => bindH (PH.set h0 r6 x7.1) fun h9 =>
 popO (SemE PG h9 (convert T_sl_uint8 T_string v8)) fun v10 =>
 popO (SemP PG (binOp BinOp.add T_string v10 t5)) fun v11 =>
 popO (SemP PG (binOp BinOp.quo T_uint64 t0 (Value.int IntKind.u64 256))) fun v12 =>
 popO (SemP PG (binOp BinOp.add T_int t6 (Value.int IntKind.i64 1))) fun v13 =>
 n1 [v12, t1, v11, v13] h9)
 (R t5 h0)
def carrackref03_Bytes (t0 : Value) (t1 : Value) (h0 : PH) (R : Value → PH → Prop) : Prop :=
 LoopL [0, 1, 5, 6] (fun n1 ρ h => carrackref03_Bytes_b2 R n1 (ρ 0) (ρ 1) (ρ 5) (ρ 6) h) [t0, t1, (Value.string { data := #[] }), (Value.int IntKind.i64 0)] h0
theorem carrackref03_Bytes.call {t0 : Value} {t1 : Value} {h0 : PH} {R : Value → PH → Prop} (H : carrackref03_Bytes t0 t1 h0 R) : CallsH PG id_carrackref03_Bytes #[t0, t1] h0 R :=
  callsF_by (an1 3 [0, 1, 5, 6] 22) 200 mix Tryz.func141 (by kernel_rfl) (by kernel_rfl) (by kernel_rfl) (by kernel_rfl) (by simp [Tryz.ntmps141]) (by kernel_rfl) H
def chain_Chain_Update (t0 : Value) (t1 : Value) (t2 : Value) (h0 : PH) (R : Value → PH → Prop) : Prop :=
 popO (SemP PG (nilS t0)) fun v1 =>
 popO (SemP PG (Instr.fieldAt T_chain_Chain v1 2)) fun v2 =>
 popO (SemE PG h0 (Instr.loadAt T_p_client_Client v2)) fun v3 =>
 CallsH PG id_client_Client_Set #[v3, t1, t2] h0 fun v4 h5 =>
 R v4 h5
theorem chain_Chain_Update.call {t0 : Value} {t1 : Value} {t2 : Value} {h0 : PH} {R : Value → PH → Prop} (H : chain_Chain_Update t0 t1 t2 h0 R) : CallsH PG id_chain_Chain_Update #[t0, t1, t2] h0 R :=
  callsF_by (an0 14) 200 mix Tryz.func35 (by kernel_rfl) (by kernel_rfl) (by kernel_rfl) (by kernel_rfl) (by simp [Tryz.ntmps35]) (by kernel_rfl) H
def client_Client_Set (t0 : Value) (t1 : Value) (t2 : Value) (h0 : PH) (R : Value → PH → Prop) : Prop :=
 popO (SemP PG (Builtin.len_ #[T_string] T_int #[t2])) fun v1 =>
 popO (SemE PG h0 (binS BinOp.neq T_int (.tmp 11) (.const (Value.int IntKind.i64 32)) v1 (Value.int IntKind.i64 32))) fun v2 =>
 condV v2
 (R (Value.int IntKind.i64 1) h0)
 (popO (SemP PG (nilS t0)) fun v3 =>
 popO (SemP PG (Instr.fieldAt T_client_Client v3 0)) fun v4 =>
 popO (SemE PG h0 (Instr.loadAt T_map_uint64_string v4)) fun v5 =>
 popO (SemE PG h0 (Instr.lookup T_map_uint64_string v5 t1 true)) fun v6 =>
 popO (SemP PG (Instr.extract v6 0)) fun v7 =>
 popO (SemP PG (Instr.extract v6 1)) fun v8 =>
 condV v8
 (R (Value.int IntKind.i64 4) h0)
 (popO (SemP PG (nilS t0)) fun v9 =>
 popO (SemP PG (Instr.fieldAt T_client_Client v9 0)) fun v10 =>
 popO (SemE PG h0 (Instr.loadAt T_map_uint64_string v10)) fun v11 =>
 popO (SemE PG h0 (Builtin.len_ #[T_map_uint64_string] T_int #[v11])) fun v12 =>
 popO (SemP PG (binOp BinOp.geq T_int v12 (Value.int IntKind.i64 4096))) fun v13 =>
 condV v13
 (R (Value.int IntKind.i64 2) h0)
 (popO (SemP PG (nilS t0)) fun v14 =>
 popO (SemP PG (Instr.fieldAt T_client_Client v14 0)) fun v15 =>
 popO (SemE PG h0 (Instr.loadAt T_map_uint64_string v15)) fun v16 =>
 SemH PG (mapUpdS T_map_uint64_string v16 t1 t2) h0 fun v17 h18 =>
 CallsH PG id_client_Client_place #[t0, t1] h18 fun v19 h20 =>
 popO (SemP PG (nilS t0)) fun v21 =>
 popO (SemP PG (Instr.fieldAt T_client_Client v21 1)) fun v22 =>
 popO (SemE PG h20 (Instr.loadAt T_sl_uint64 v22)) fun v23 =>
 popO (SemP PG (Instr.sliceAt T_sl_uint64 v23 none (some v19) (some v19))) fun v24 =>
 popO (SemP PG (nilS t0)) fun v25 =>
 popO (SemP PG (Instr.fieldAt T_client_Client v25 1)) fun v26 =>
 popO (SemE PG h20 (Instr.loadAt T_sl_uint64 v26)) fun v27 =>
 popO (SemP PG (Instr.sliceAt T_sl_uint64 v27 (some v19) none none)) fun v28 =>
 popO (SemA PG (Instr.buildSlice T_sl_uint64 1 #[(0, t1)])) fun x30 => ∀ r29, h20 r29 = none → popO (SemP PG (x30.2 r29)) fun v31 => bindH (PH.set h20 r29 x30.1) fun h32 =>
 SemH PG (Builtin.append_ #[T_sl_uint64, T_sl_uint64] T_sl_uint64 #[v24, v31]) h32 fun v33 h34 =>
 SemE PG h34 (Instr.loadAt T_sl_uint64 v26) = some v27 ∧ (SemH PG (Builtin.append_ #[T_sl_uint64, T_sl_uint64] T_sl_uint64 #[v33, v28]) h34 fun v35 h36 =>
 (popO (SemP PG (nilS t0)) fun v37 =>
 popO (SemP PG (Instr.fieldAt T_client_Client v37 1)) fun v38 =>
 SemH PG (storeS T_sl_uint64 v38 v35) h36 fun v39 h40 =>
 (R (Value.int IntKind.i64 0) h40))))))
def client_Client_Set.ann : Ann := { b := fun i => match i with | 10 => #[0, 0, 2, 6, 14, 0, 0, 126, 0, 256, 1022, 0, 2048, 6144, 14336, 0, 63488, 131070, 262143, 524287, 1048575] | _ => #[], ord := fun i => match i with | 10 => [0, 1, 2, 3, 4, 5, 6, 7, 8, 11, 12, 13, 14, 15, 16, 9, 10, 17, 18, 19, 20] | _ => [], keep := fun i => match i with  | _ => [], n := 58 }
theorem client_Client_Set.call {t0 : Value} {t1 : Value} {t2 : Value} {h0 : PH} {R : Value → PH → Prop} (H : client_Client_Set t0 t1 t2 h0 R) : CallsH PG id_client_Client_Set #[t0, t1, t2] h0 R :=
  callsF_by client_Client_Set.ann 200 mix Tryz.func76 (by kernel_rfl) (by kernel_rfl) (by kernel_rfl) (by kernel_rfl) (by simp [Tryz.ntmps76]) (by kernel_rfl) H
def client_Client_place (t0 : Value) (t1 : Value) (h0 : PH) (R : Value → PH → Prop) : Prop :=
 ∀ r1, h0 r1 = none → bindH (PH.set h0 r1 (.cells (Value.cells t0) T_p_client_Client)) fun h2 =>
 ∀ r3, h2 r3 = none → bindH (PH.set h2 r3 (.cells (Value.cells t1) T_uint64)) fun h4 =>
 popO (SemE PG h4 (Instr.loadAt T_p_client_Client (Value.pointer (some ⟨r1, 0, none⟩)))) fun v5 =>
 popO (SemP PG (nilS v5)) fun v6 =>
 popO (SemP PG (Instr.fieldAt T_client_Client v6 1)) fun v7 =>
 popO (SemE PG h4 (Instr.loadAt T_sl_uint64 v7)) fun v8 =>
 popO (SemP PG (Builtin.len_ #[T_sl_uint64] T_int #[v8])) fun v9 =>
 popO (SemP PG (Instr.makeFunc (Fn.func id_client_Client_place_1) #[] #[(Value.pointer (some ⟨r1, 0, none⟩)), (Value.pointer (some ⟨r3, 0, none⟩))])) fun v10 =>
 CallsH PG id_sort_Search #[v9, v10] h4 fun v11 h12 =>
 R v11 h12
theorem client_Client_place.call {t0 : Value} {t1 : Value} {h0 : PH} {R : Value → PH → Prop} (H : client_Client_place t0 t1 h0 R) : CallsH PG id_client_Client_place #[t0, t1] h0 R :=
  callsF_by (an0 12) 200 mix Tryz.func142 (by kernel_rfl) (by kernel_rfl) (by kernel_rfl) (by kernel_rfl) (by simp [Tryz.ntmps142]) (by kernel_rfl) H
def sort_Search_k12 (R : Value → PH → Prop) (n1 : List Value → PH → Prop) (t1 : Value) (t5 : Value) (t6 : Value) (h0 : PH) : Prop :=
 n1 [t1, t5, t6] h0
def sort_Search_b2 (R : Value → PH → Prop) (n1 : List Value → PH → Prop) (t1 : Value) (t5 : Value) (t6 : Value) (h0 : PH) : Prop :=
 popO (SemP PG (binOp BinOp.lss T_int t5 t6)) fun v3 =>
 condV v3
 (popO (SemP PG (binOp BinOp.add T_int t5 t6)) fun v4 =>
 popO (SemP PG (convert T_int T_uint v4)) fun v5 =>
 popO (SemP PG (binOp BinOp.shr T_uint v5 (Value.int IntKind.u64 1))) fun v6 =>
 popO (SemP PG (convert T_uint T_int v6)) fun v7 =>
 callC PG t1 #[v7] h0 fun v8 h9 =>
 popO (SemP PG (Op.unary UnOp.not v8)) fun v10 =>
 condV v10
 (popO (SemP PG (binOp BinOp.add T_int v7 (Value.int IntKind.i64 1))) fun v11 =>
 sort_Search_k12 R n1 t1 v11 t6 h9)
 (sort_Search_k12 R n1 t1 t5 v7 h9))
 (R t5 h0)
def sort_Search (t0 : Value) (t1 : Value) (h0 : PH) (R : Value → PH → Prop) : Prop :=
 LoopL [1, 5, 6] (fun n1 ρ h => sort_Search_b2 R n1 (ρ 1) (ρ 5) (ρ 6) h) [t1, (Value.int IntKind.i64 0), t0] h0
theorem sort_Search.call {t0 : Value} {t1 : Value} {h0 : PH} {R : Value → PH → Prop} (H : sort_Search t0 t1 h0 R) : CallsH PG id_sort_Search #[t0, t1] h0 R :=
  callsF_by (an1 2 [1, 5, 6] 26) 200 mix Tryz.func194 (by kernel_rfl) (by kernel_rfl) (by kernel_rfl) (by kernel_rfl) (by simp [Tryz.ntmps194]) (by kernel_rfl) H
def client_Client_place_1 (t0 : Value) (t1 : Value) (t2 : Value) (h0 : PH) (R : Value → PH → Prop) : Prop :=
 popO (SemE PG h0 (Instr.loadAt T_p_client_Client t1)) fun v1 =>
 popO (SemP PG (nilS v1)) fun v2 =>
 popO (SemP PG (Instr.fieldAt T_client_Client v2 1)) fun v3 =>
 popO (SemE PG h0 (Instr.loadAt T_sl_uint64 v3)) fun v4 =>
 popO (SemP PG (Instr.indexAt T_sl_uint64 v4 t0)) fun v5 =>
 popO (SemE PG h0 (Instr.loadAt T_uint64 v5)) fun v6 =>
 popO (SemE PG h0 (Instr.loadAt T_uint64 t2)) fun v7 =>
 popO (SemP PG (binOp BinOp.geq T_uint64 v6 v7)) fun v8 =>
 R v8 h0
def client_Client_place_1.ann : Ann := { b := fun i => match i with | 1 => #[0, 1, 3, 7, 0, 31, 63, 0, 255, 511] | _ => #[], ord := fun i => match i with | 1 => [0, 1, 2, 3, 4, 5, 6, 7, 8, 9] | _ => [], keep := fun i => match i with  | _ => [], n := 14 }
theorem client_Client_place_1.call {t0 : Value} {t1 : Value} {t2 : Value} {h0 : PH} {R : Value → PH → Prop} (H : client_Client_place_1 t0 t1 t2 h0 R) : CallsH PG id_client_Client_place_1 #[t0, t1, t2] h0 R :=
  callsF_by client_Client_place_1.ann 200 mix Tryz.func195 (by kernel_rfl) (by kernel_rfl) (by kernel_rfl) (by kernel_rfl) (by simp [Tryz.ntmps195]) (by kernel_rfl) H
def chain_Chain_Recv_k70 (R : Value → PH → Prop) (t11 : Value) (h0 : PH) : Prop :=
 R t11 h0
def chain_Chain_Recv (t0 : Value) (t1 : Value) (t2 : Value) (t3 : Value) (h0 : PH) (R : Value → PH → Prop) : Prop :=
 ∀ r1, h0 r1 = none → bindH (PH.set h0 r1 (.cells (Value.cells t0) T_p_chain_Chain)) fun h2 =>
 ∀ r3, h2 r3 = none → bindH (PH.set h2 r3 (.cells (Value.cells t1) T_api_Packet)) fun h4 =>
 ∀ r5, h4 r5 = none → bindH (PH.set h4 r5 (.cells (Value.cells t2) T_string)) fun h6 =>
 popO (SemE PG h6 (Instr.loadAt T_p_chain_Chain (Value.pointer (some ⟨r1, 0, none⟩)))) fun v7 =>
 popO (SemP PG (Instr.makeFunc (Fn.func id_chain_Chain_Recv_1) #[] #[(Value.pointer (some ⟨r5, 0, none⟩)), (Value.pointer (some ⟨r3, 0, none⟩))])) fun v8 =>
 CallsH PG id_chain_Chain_proved #[v7, t3, v8] h6 fun v9 h10 =>
 popO (SemP PG (Instr.extract v9 0)) fun v11 =>
 popO (SemP PG (Instr.extract v9 1)) fun v12 =>
 ∀ r13, h10 r13 = none → bindH (PH.set h10 r13 (.cells (zcells PG T_chain_rule) T_chain_rule)) fun h14 =>
 ∀ r15, h14 r15 = none → bindH (PH.set h14 r15 (.cells (zcells PG T_chain_rule) T_chain_rule)) fun h16 =>
 SemH PG (storeS T_chain_rule (Value.pointer (some ⟨r13, 0, none⟩)) v11) h16 fun v17 h18 =>
 SemH PG (storeS T_chain_rule (Value.pointer (some ⟨r15, 0, none⟩)) v12) h18 fun v19 h20 =>
 popO (SemE PG h20 (Instr.loadAt T_p_chain_Chain (Value.pointer (some ⟨r1, 0, none⟩)))) fun v21 =>
 popO (SemE PG h20 (Instr.loadAt T_api_Packet (Value.pointer (some ⟨r3, 0, none⟩)))) fun v22 =>
 popO (SemE PG h20 (Instr.loadAt T_p_chain_Chain (Value.pointer (some ⟨r1, 0, none⟩)))) fun v23 =>
 popO (SemP PG (nilS v23)) fun v24 =>
 popO (SemP PG (Instr.fieldAt T_chain_Chain v24 1)) fun v25 =>
 popO (SemE PG h20 (Instr.loadAt T_int v25)) fun v26 =>
 popO (SemP PG (binOp BinOp.sub T_int (Value.int IntKind.i64 1) v26)) fun v27 =>
 popO (SemP PG (Instr.makeFunc (Fn.func id_chain_Chain_Recv_2) #[] #[(Value.pointer (some ⟨r3, 0, none⟩)), (Value.pointer (some ⟨r1, 0, none⟩))])) fun v28 =>
 popO (SemP PG (Instr.build T_chain_rule #[(0, v28), (1, (Value.int IntKind.i64 10))])) fun v29 =>
 popO (SemP PG (Instr.makeFunc (Fn.func id_chain_Chain_Recv_3) #[] #[(Value.pointer (some ⟨r1, 0, none⟩)), (Value.pointer (some ⟨r3, 0, none⟩))])) fun v30 =>
 popO (SemP PG (Instr.build T_chain_rule #[(0, v30), (1, (Value.int IntKind.i64 4))])) fun v31 =>
 popO (SemE PG h20 (Instr.loadAt T_chain_rule (Value.pointer (some ⟨r13, 0, none⟩)))) fun v32 =>
 popO (SemE PG h20 (Instr.loadAt T_chain_rule (Value.pointer (some ⟨r15, 0, none⟩)))) fun v33 =>
 popO (SemP PG (Instr.makeFunc (Fn.func id_chain_Chain_Recv_4) #[] #[(Value.pointer (some ⟨r1, 0, none⟩))])) fun v34 =>
 popO (SemP PG (Instr.build T_chain_rule #[(0, v34), (1, (Value.int IntKind.i64 2))])) fun v35 =>
 CallsH PG id_chain_from #[v22, v27] h20 fun v36 h37 =>
 SemE PG h37 (Instr.loadAt T_chain_rule (Value.pointer (some ⟨r15, 0, none⟩))) = some v33 ∧ SemE PG h37 (Instr.loadAt T_chain_rule (Value.pointer (some ⟨r13, 0, none⟩))) = some v32 ∧ SemE PG h37 (Instr.loadAt T_p_chain_Chain (Value.pointer (some ⟨r1, 0, none⟩))) = some v21 ∧ (popO (SemA PG (Instr.buildSlice T_sl_chain_rule 6 #[(0, v36), (1, v29), (2, v31), (3, v32), (4, v33), (5, v35)])) fun x39 => ∀ r38, h37 r38 = none → popO (SemP PG (x39.2 r38)) fun v40 => bindH (PH.set h37 r38 x39.1) fun h41 =>
 CallsH PG id_chain_Chain_all #[v21, v40] h41 fun v42 h43 =>
 (popO (SemE PG h43 (binS BinOp.eql T_api_Errno (.tmp 37) (.const (Value.int IntKind.i64 0)) v42 (Value.int IntKind.i64 0))) fun v44 =>
 condV v44
 (popO (SemE PG h43 (Instr.loadAt T_p_chain_Chain (Value.pointer (some ⟨r1, 0, none⟩)))) fun v45 =>
 popO (SemP PG (nilS v45)) fun v46 =>
 popO (SemP PG (Instr.fieldAt T_chain_Chain v46 0)) fun v47 =>
 popO (SemP PG (Instr.fieldAt T_api_Packet (Value.pointer (some ⟨r3, 0, none⟩)) 1)) fun v48 =>
 popO (SemE PG h43 (Instr.loadAt T_uint64 v48)) fun v49 =>
 CallsH PG id_packet_Received #[v49] h43 fun v50 h51 =>
 SemE PG h51 (Instr.loadAt T_p_chain_Chain (Value.pointer (some ⟨r1, 0, none⟩))) = some v45 ∧ (CallsH PG id_chain_ledger_set #[v47, v50, (Value.string { data := #[1] })] h51 fun v52 h53 =>
 (popO (SemE PG h53 (Instr.loadAt T_p_chain_Chain (Value.pointer (some ⟨r1, 0, none⟩)))) fun v54 =>
 popO (SemP PG (nilS v54)) fun v55 =>
 popO (SemP PG (Instr.fieldAt T_chain_Chain v55 0)) fun v56 =>
 popO (SemP PG (Instr.fieldAt T_api_Packet (Value.pointer (some ⟨r3, 0, none⟩)) 1)) fun v57 =>
 popO (SemE PG h53 (Instr.loadAt T_uint64 v57)) fun v58 =>
 popO (SemE PG h53 (Instr.loadAt T_api_Packet (Value.pointer (some ⟨r3, 0, none⟩)))) fun v59 =>
 CallsH PG id_packet_Answered #[v58] h53 fun v60 h61 =>
 SemE PG h61 (Instr.loadAt T_api_Packet (Value.pointer (some ⟨r3, 0, none⟩))) = some v59 ∧ SemE PG h61 (Instr.loadAt T_p_chain_Chain (Value.pointer (some ⟨r1, 0, none⟩))) = some v54 ∧ (CallsH PG id_packet_Answer #[v59] h61 fun v62 h63 =>
 SemE PG h63 (Instr.loadAt T_p_chain_Chain (Value.pointer (some ⟨r1, 0, none⟩))) = some v54 ∧ (CallsH PG id_chain_ledger_set #[v56, v60, v62] h63 fun v64 h65 =>
 (popO (SemE PG h65 (Instr.loadAt T_p_chain_Chain (Value.pointer (some ⟨r1, 0, none⟩)))) fun v66 =>
 popO (SemE PG h65 (Instr.loadAt T_api_Packet (Value.pointer (some ⟨r3, 0, none⟩)))) fun v67 =>
 CallsH PG id_chain_Chain_note #[v66, (Value.int IntKind.i64 2), v67] h65 fun v68 h69 =>
 chain_Chain_Recv_k70 R v42 h69))))))
 (chain_Chain_Recv_k70 R v42 h43)))
def chain_Chain_Recv.ann : Ann := { b := fun i => match i with | 2 => #[0, 0, 0, 4, 12, 28, 60, 126, 0, 256, 0, 1024, 0, 0, 0, 16384, 65534, 131071, 262143] | 4 => #[0, 1, 3, 0, 8, 24, 63] | 5 => #[0, 1, 3, 0, 8, 24, 0, 120, 255] | _ => #[], ord := fun i => match i with | 2 => [0, 1, 2, 3, 4, 5, 6, 8, 9, 10, 11, 12, 13, 14, 15, 7, 16, 17, 18] | 4 => [0, 1, 2, 3, 4, 5, 6] | 5 => [0, 1, 2, 3, 4, 6, 5, 7, 8] | _ => [], keep := fun i => match i with  | _ => [], n := 59 }
theorem chain_Chain_Recv.call {t0 : Value} {t1 : Value} {t2 : Value} {t3 : Value} {h0 : PH} {R : Value → PH → Prop} (H : chain_Chain_Recv t0 t1 t2 t3 h0 R) : CallsH PG id_chain_Chain_Recv #[t0, t1, t2, t3] h0 R :=
  callsF_by chain_Chain_Recv.ann 200 mix Tryz.func36 (by kernel_rfl) (by kernel_rfl) (by kernel_rfl) (by kernel_rfl) (by simp [Tryz.ntmps36]) (by kernel_rfl) H
def chain_Chain_proved (t0 : Value) (t1 : Value) (t2 : Value) (h0 : PH) (R : Value → PH → Prop) : Prop :=
 ∀ r1, h0 r1 = none → bindH (PH.set h0 r1 (.cells (Value.cells t2) T_func_string_bool)) fun h2 =>
 ∀ r3, h2 r3 = none → bindH (PH.set h2 r3 (.cells (zcells PG T_chain_rule) T_chain_rule)) fun h4 =>
 ∀ r5, h4 r5 = none → bindH (PH.set h4 r5 (.cells (zcells PG T_chain_rule) T_chain_rule)) fun h6 =>
 popO (SemP PG (nilS t0)) fun v7 =>
 popO (SemP PG (Instr.fieldAt T_chain_Chain v7 2)) fun v8 =>
 popO (SemE PG h6 (Instr.loadAt T_p_client_Client v8)) fun v9 =>
 CallsH PG id_client_Client_Root #[v9, t1] h6 fun v10 h11 =>
 popO (SemP PG (Instr.extract v10 0)) fun v12 =>
 popO (SemP PG (Instr.extract v10 1)) fun v13 =>
 ∀ r14, h11 r14 = none → bindH (PH.set h11 r14 (.cells (zcells PG T_string) T_string)) fun h15 =>
 ∀ r16, h15 r16 = none → bindH (PH.set h15 r16 (.cells (zcells PG T_bool) T_bool)) fun h17 =>
 SemH PG (storeS T_string (Value.pointer (some ⟨r14, 0, none⟩)) v12) h17 fun v18 h19 =>
 SemH PG (storeS T_bool (Value.pointer (some ⟨r16, 0, none⟩)) v13) h19 fun v20 h21 =>
 popO (SemP PG (Instr.makeFunc (Fn.func id_chain_Chain_proved_1) #[] #[(Value.pointer (some ⟨r16, 0, none⟩))])) fun v22 =>
 popO (SemP PG (Instr.build T_chain_rule #[(0, v22), (1, (Value.int IntKind.i64 11))])) fun v23 =>
 popO (SemP PG (Instr.makeFunc (Fn.func id_chain_Chain_proved_2) #[] #[(Value.pointer (some ⟨r1, 0, none⟩)), (Value.pointer (some ⟨r14, 0, none⟩))])) fun v24 =>
 popO (SemP PG (Instr.build T_chain_rule #[(0, v24), (1, (Value.int IntKind.i64 9))])) fun v25 =>
 SemH PG (storeS T_chain_rule (Value.pointer (some ⟨r3, 0, none⟩)) v23) h21 fun v26 h27 =>
 SemH PG (storeS T_chain_rule (Value.pointer (some ⟨r5, 0, none⟩)) v25) h27 fun v28 h29 =>
 popO (SemE PG h29 (Instr.loadAt T_chain_rule (Value.pointer (some ⟨r3, 0, none⟩)))) fun v30 =>
 popO (SemE PG h29 (Instr.loadAt T_chain_rule (Value.pointer (some ⟨r5, 0, none⟩)))) fun v31 =>
 R (Value.tuple #[v30, v31]) h29
theorem chain_Chain_proved.call {t0 : Value} {t1 : Value} {t2 : Value} {h0 : PH} {R : Value → PH → Prop} (H : chain_Chain_proved t0 t1 t2 h0 R) : CallsH PG id_chain_Chain_proved #[t0, t1, t2] h0 R :=
  callsF_by (an0 23) 200 mix Tryz.func77 (by kernel_rfl) (by kernel_rfl) (by kernel_rfl) (by kernel_rfl) (by simp [Tryz.ntmps77]) (by kernel_rfl) H
def client_Client_Root (t0 : Value) (t1 : Value) (h0 : PH) (R : Value → PH → Prop) : Prop :=
 popO (SemP PG (nilS t0)) fun v1 =>
 popO (SemP PG (Instr.fieldAt T_client_Client v1 0)) fun v2 =>
 popO (SemE PG h0 (Instr.loadAt T_map_uint64_string v2)) fun v3 =>
 popO (SemE PG h0 (Instr.lookup T_map_uint64_string v3 t1 true)) fun v4 =>
 popO (SemP PG (Instr.extract v4 0)) fun v5 =>
 popO (SemP PG (Instr.extract v4 1)) fun v6 =>
 R (Value.tuple #[v5, v6]) h0
theorem client_Client_Root.call {t0 : Value} {t1 : Value} {h0 : PH} {R : Value → PH → Prop} (H : client_Client_Root t0 t1 h0 R) : CallsH PG id_client_Client_Root #[t0, t1] h0 R :=
  callsF_by (an0 19) 200 mix Tryz.func143 (by kernel_rfl) (by kernel_rfl) (by kernel_rfl) (by kernel_rfl) (by simp [Tryz.ntmps143]) (by kernel_rfl) H
def chain_Chain_proved_1 (t0 : Value) (h0 : PH) (R : Value → PH → Prop) : Prop :=
 popO (SemE PG h0 (Instr.loadAt T_bool t0)) fun v1 =>
 R v1 h0
theorem chain_Chain_proved_1.call {t0 : Value} {h0 : PH} {R : Value → PH → Prop} (H : chain_Chain_proved_1 t0 h0 R) : CallsH PG id_chain_Chain_proved_1 #[t0] h0 R :=
  callsF_by (an0 3) 200 mix Tryz.func144 (by kernel_rfl) (by kernel_rfl) (by kernel_rfl) (by kernel_rfl) (by simp [Tryz.ntmps144]) (by kernel_rfl) H
def chain_Chain_proved_2 (t0 : Value) (t1 : Value) (h0 : PH) (R : Value → PH → Prop) : Prop :=
 popO (SemE PG h0 (Instr.loadAt T_func_string_bool t0)) fun v1 =>
 popO (SemE PG h0 (Instr.loadAt T_string t1)) fun v2 =>
 callC PG v1 #[v2] h0 fun v3 h4 =>
 R v3 h4
theorem chain_Chain_proved_2.call {t0 : Value} {t1 : Value} {h0 : PH} {R : Value → PH → Prop} (H : chain_Chain_proved_2 t0 t1 h0 R) : CallsH PG id_chain_Chain_proved_2 #[t0, t1] h0 R :=
  callsF_by (an0 6) 200 mix Tryz.func145 (by kernel_rfl) (by kernel_rfl) (by kernel_rfl) (by kernel_rfl) (by simp [Tryz.ntmps145]) (by kernel_rfl) H
def chain_Chain_Recv_1 (t0 : Value) (t1 : Value) (t2 : Value) (h0 : PH) (R : Value → PH → Prop) : Prop :=
 popO (SemE PG h0 (Instr.loadAt T_string t1)) fun v1 =>
 popO (SemP PG (Instr.fieldAt T_api_Packet t2 1)) fun v2 =>
 popO (SemE PG h0 (Instr.loadAt T_uint64 v2)) fun v3 =>
 popO (SemE PG h0 (Instr.loadAt T_api_Packet t2)) fun v4 =>
 CallsH PG id_packet_Sent #[v3] h0 fun v5 h6 =>
 SemE PG h6 (Instr.loadAt T_api_Packet t2) = some v4 ∧ SemE PG h6 (Instr.loadAt T_string t1) = some v1 ∧ (CallsH PG id_packet_Commitment #[v4] h6 fun v7 h8 =>
 SemE PG h8 (Instr.loadAt T_string t1) = some v1 ∧ (CallsH PG id_proof_Has #[t0, v1, v5, v7] h8 fun v9 h10 =>
 (R v9 h10)))
def chain_Chain_Recv_1.ann : Ann := { b := fun i => match i with | 1 => #[0, 0, 0, 4, 12, 0, 60, 127, 255] | _ => #[], ord := fun i => match i with | 1 => [0, 1, 2, 3, 5, 4, 6, 7, 8] | _ => [], keep := fun i => match i with  | _ => [], n := 13 }
theorem chain_Chain_Recv_1.call {t0 : Value} {t1 : Value} {t2 : Value} {h0 : PH} {R : Value → PH → Prop} (H : chain_Chain_Recv_1 t0 t1 t2 h0 R) : CallsH PG id_chain_Chain_Recv_1 #[t0, t1, t2] h0 R :=
  callsF_by chain_Chain_Recv_1.ann 200 mix Tryz.func78 (by kernel_rfl) (by kernel_rfl) (by kernel_rfl) (by kernel_rfl) (by simp [Tryz.ntmps78]) (by kernel_rfl) H
def proof_Has (t0 : Value) (t1 : Value) (t2 : Value) (t3 : Value) (h0 : PH) (R : Value → PH → Prop) : Prop :=
 CallsH PG id_proof_Parse #[t1] h0 fun v1 h2 =>
 popO (SemP PG (Instr.extract v1 0)) fun v3 =>
 popO (SemP PG (Instr.extract v1 1)) fun v4 =>
 ∀ r5, h2 r5 = none → bindH (PH.set h2 r5 (.cells (zcells PG T_api_Proof) T_api_Proof)) fun h6 =>
 SemH PG (storeS T_api_Proof (Value.pointer (some ⟨r5, 0, none⟩)) v3) h6 fun v7 h8 =>
 popO (SemE PG h8 (binS BinOp.eql T_api_Errno (.tmp 16) (.const (Value.int IntKind.i64 0)) v4 (Value.int IntKind.i64 0))) fun v9 =>
 gopV (yV v9) true (fun k12 => popO (SemP PG (Instr.fieldAt T_api_Proof (Value.pointer (some ⟨r5, 0, none⟩)) 0)) fun v13 => k12 v13 h8) h8 fun v10 h11 =>
 gopV (yV v9) true (fun k16 => popO (SemE PG h11 (Instr.loadAt T_bool v10)) fun v17 => k16 v17 h11) h11 fun v14 h15 =>
 gopV (yV v9) true (fun k20 => popO (SemP PG (Op.unary UnOp.not v14)) fun v21 => k20 v21 h15) h15 fun v18 h19 =>
 popO (pickV v9 v18 (Value.bool false)) fun v22 =>
 gopV (yV v22) true (fun k25 => popO (SemP PG (Instr.fieldAt T_api_Proof (Value.pointer (some ⟨r5, 0, none⟩)) 1)) fun v26 => k25 v26 h19) h19 fun v23 h24 =>
 gopV (yV v22) true (fun k29 => popO (SemE PG h24 (Instr.loadAt T_sl_api_Leaf v23)) fun v30 => k29 v30 h24) h24 fun v27 h28 =>
 gopV (yV v22) true (fun k33 => popO (SemP PG (Builtin.len_ #[T_sl_api_Leaf] T_int #[v27])) fun v34 => k33 v34 h28) h28 fun v31 h32 =>
 gopV (yV v22) true (fun k37 => popO (SemE PG h32 (binS BinOp.eql T_int (.tmp 26) (.const (Value.int IntKind.i64 1)) v31 (Value.int IntKind.i64 1))) fun v38 => k37 v38 h32) h32 fun v35 h36 =>
 popO (pickV v22 v35 (Value.bool false)) fun v39 =>
 gopV (yV v39) true (fun k42 => popO (SemP PG (Instr.fieldAt T_api_Proof (Value.pointer (some ⟨r5, 0, none⟩)) 1)) fun v43 => k42 v43 h36) h36 fun v40 h41 =>
 gopV (yV v39) true (fun k46 => popO (SemE PG h41 (Instr.loadAt T_sl_api_Leaf v40)) fun v47 => k46 v47 h41) h41 fun v44 h45 =>
 gopV (yV v39) true (fun k50 => popO (SemP PG (Instr.indexAt T_sl_api_Leaf v44 (Value.int IntKind.i64 0))) fun v51 => k50 v51 h45) h45 fun v48 h49 =>
 gopV (yV v39) true (fun k54 => popO (SemP PG (Instr.fieldAt T_api_Leaf v48 2)) fun v55 => k54 v55 h49) h49 fun v52 h53 =>
 gopV (yV v39) true (fun k58 => popO (SemE PG h53 (Instr.loadAt T_api_Pair v52)) fun v59 => k58 v59 h53) h53 fun v56 h57 =>
 gopV (yV v39) true (fun k62 => k62 t2 h57) h57 fun v60 h61 =>
 gopV (yV v39) true (fun k65 => k65 t3 h61) h61 fun v63 h64 =>
 gopV (yV v39) true (fun k68 => popO (SemP PG (Instr.build T_api_Pair #[(0, v60), (1, v63)])) fun v69 => k68 v69 h64) h64 fun v66 h67 =>
 gopV (yV v39) true (fun k72 => popO (SemE PG h67 (binS BinOp.eql T_api_Pair (.tmp 34) (.tmp 37) v56 v66)) fun v73 => k72 v73 h67) h67 fun v70 h71 =>
 popO (pickV v39 v70 (Value.bool false)) fun v74 =>
 gopV (yV v74) true (fun k77 => k77 t0 h71) h71 fun v75 h76 =>
 gopV (yV v74) true (fun k80 => popO (SemP PG (Instr.fieldAt T_api_Proof (Value.pointer (some ⟨r5, 0, none⟩)) 1)) fun v81 => k80 v81 h76) h76 fun v78 h79 =>
 gopV (yV v74) true (fun k84 => popO (SemE PG h79 (Instr.loadAt T_sl_api_Leaf v78)) fun v85 => k84 v85 h79) h79 fun v82 h83 =>
 gopV (yV v74) true (fun k88 => CallsH PG id_proof_climb #[v75, v82] h83 fun v89 h90 => k88 v89 h90) h83 fun v86 h87 =>
 popO (pickV v74 v86 (Value.bool false)) fun v91 =>
 R v91 h87
theorem proof_Has.call {t0 : Value} {t1 : Value} {t2 : Value} {t3 : Value} {h0 : PH} {R : Value → PH → Prop} (H : proof_Has t0 t1 t2 t3 h0 R) : CallsH PG id_proof_Has #[t0, t1, t2, t3] h0 R :=
  callsF_by (an0 46) 200 mix Tryz.func19 (by kernel_rfl) (by kernel_rfl) (by kernel_rfl) (by kernel_rfl) (by simp [Tryz.ntmps19]) (by kernel_rfl) H
def proof_Parse_b37 (R : Value → PH → Prop) (n36 : List Value → PH → Prop) (t2 : Value) (t4 : Value) (t7 : Value) (t28 : Value) (t29 : Value) (h0 : PH) : Prop :=
 popO (SemP PG (binOp BinOp.lss T_int t29 t28)) fun v38 =>
 condV v38
 (popO (SemP PG (Instr.fieldAt T_api_Proof t7 1)) fun v39 =>
 popO (SemE PG h0 (Instr.loadAt T_sl_api_Leaf v39)) fun v40 =>
 CallsH PG id_proof_leaf #[t4] h0 fun v41 h42 =>
 SemE PG h42 (Instr.loadAt T_sl_api_Leaf v39) = some v40 ∧ (popO (SemA PG (Instr.buildSlice T_sl_api_Leaf 1 #[(0, v41)])) fun x44 => ∀ r43, h42 r43 = none → popO (SemP PG (x44.2 r43)) fun v45 => bindH (PH.set h42 r43 x44.1) fun h46 =>
 SemH PG (Builtin.append_ #[T_sl_api_Leaf, T_sl_api_Leaf] T_sl_api_Leaf #[v40, v45]) h46 fun v47 h48 =>
 (popO (SemP PG (Instr.fieldAt T_api_Proof t7 1)) fun v49 =>
 SemH PG (storeS T_sl_api_Leaf v49 v47) h48 fun v50 h51 =>
 (popO (SemP PG (binOp BinOp.add T_int t29 (Value.int IntKind.i64 1))) fun v52 =>
 n36 [t2, t4, t7, t28, v52] h51))))
 (CallsH PG id_wire_Reader_End #[t4] h0 fun v53 h54 =>
 popO (SemE PG h54 (binS BinOp.neq T_api_Errno (.tmp 40) (.const (Value.int IntKind.i64 0)) v53 (Value.int IntKind.i64 0))) fun v55 =>
 condV v55
 (popO (SemP PG (Instr.build T_api_Proof #[])) fun v56 =>
 SemH PG (storeS T_api_Proof t2 v56) h54 fun v57 h58 =>
 popO (SemE PG h58 (Instr.loadAt T_api_Proof t2)) fun v59 =>
 R (Value.tuple #[v59, (Value.int IntKind.i64 5)]) h58)
 (popO (SemE PG h54 (Instr.loadAt T_api_Proof t7)) fun v60 =>
 SemH PG (storeS T_api_Proof t2 v60) h54 fun v61 h62 =>
 popO (SemE PG h62 (Instr.loadAt T_api_Proof t2)) fun v63 =>
 R (Value.tuple #[v63, (Value.int IntKind.i64 0)]) h62))
def proof_Parse (t0 : Value) (h0 : PH) (R : Value → PH → Prop) : Prop :=
 ∀ r1, h0 r1 = none → bindH (PH.set h0 r1 (.cells (zcells PG T_api_Proof) T_api_Proof)) fun h2 =>
 CallsH PG id_wire_NewReader #[t0] h2 fun v3 h4 =>
 CallsH PG id_wire_Reader_Byte #[v3] h4 fun v5 h6 =>
 CallsH PG id_wire_Reader_Byte #[v3] h6 fun v7 h8 =>
 popO (SemP PG (binOp BinOp.lss T_int v5 (Value.int IntKind.i64 1))) fun v9 =>
 gopV (yV v9) false (fun k12 => k12 v5 h8) h8 fun v10 h11 =>
 gopV (yV v9) false (fun k15 => popO (SemP PG (binOp BinOp.gtr T_int v10 (Value.int IntKind.i64 2))) fun v16 => k15 v16 h11) h11 fun v13 h14 =>
 popO (pickV v9 (Value.bool true) v13) fun v17 =>
 gopV (yV v17) false (fun k20 => k20 v7 h14) h14 fun v18 h19 =>
 gopV (yV v17) false (fun k23 => popO (SemP PG (binOp BinOp.gtr T_int v18 (Value.int IntKind.i64 2))) fun v24 => k23 v24 h19) h19 fun v21 h22 =>
 popO (pickV v17 (Value.bool true) v21) fun v25 =>
 condV v25
 (popO (SemP PG (Instr.build T_api_Proof #[])) fun v26 =>
 SemH PG (storeS T_api_Proof (Value.pointer (some ⟨r1, 0, none⟩)) v26) h22 fun v27 h28 =>
 popO (SemE PG h28 (Instr.loadAt T_api_Proof (Value.pointer (some ⟨r1, 0, none⟩)))) fun v29 =>
 R (Value.tuple #[v29, (Value.int IntKind.i64 5)]) h28)
 (popO (SemE PG h22 (binS BinOp.eql T_int (.tmp 25) (.const (Value.int IntKind.i64 2)) v5 (Value.int IntKind.i64 2))) fun v30 =>
 popO (SemP PG (Instr.build T_api_Proof #[(0, v30)])) fun v31 =>
 ∀ r32, h22 r32 = none → bindH (PH.set h22 r32 (.cells (zcells PG T_api_Proof) T_api_Proof)) fun h33 =>
 SemH PG (storeS T_api_Proof (Value.pointer (some ⟨r32, 0, none⟩)) v31) h33 fun v34 h35 =>
 LoopL [2, 4, 7, 28, 29] (fun n36 ρ h => proof_Parse_b37 R n36 (ρ 2) (ρ 4) (ρ 7) (ρ 28) (ρ 29) h) [(Value.pointer (some ⟨r1, 0, none⟩)), v3, (Value.pointer (some ⟨r32, 0, none⟩)), v7, (Value.int IntKind.i64 0)] h35)
def proof_Parse.ann : Ann := { b := fun i => match i with | 8 => #[0, 1, 0, 4, 12, 31, 63, 127] | _ => #[], ord := fun i => match i with | 8 => [0, 1, 2, 3, 4, 5, 6, 7] | _ => [], keep := fun i => match i with | 7 => [2, 4, 7, 28, 29] | _ => [], n := 44 }
theorem proof_Parse.call {t0 : Value} {h0 : PH} {R : Value → PH → Prop} (H : proof_Parse t0 h0 R) : CallsH PG id_proof_Parse #[t0] h0 R :=
  callsF_by proof_Parse.ann 200 mix Tryz.func53 (by kernel_rfl) (by kernel_rfl) (by kernel_rfl) (by kernel_rfl) (by simp [Tryz.ntmps53]) (by kernel_rfl) H
def wire_NewReader (t0 : Value) (h0 : PH) (R : Value → PH → Prop) : Prop :=
 popO (SemP PG (Instr.build T_wire_Reader #[(1, t0)])) fun v1 =>
 ∀ r2, h0 r2 = none → bindH (PH.set h0 r2 (.cells (Value.cells v1) T_wire_Reader)) fun h3 =>
 R (Value.pointer (some ⟨r2, 0, none⟩)) h3
theorem wire_NewReader.call {t0 : Value} {h0 : PH} {R : Value → PH → Prop} (H : wire_NewReader t0 h0 R) : CallsH PG id_wire_NewReader #[t0] h0 R :=
  callsF_by (an0 6) 200 mix Tryz.func122 (by kernel_rfl) (by kernel_rfl) (by kernel_rfl) (by kernel_rfl) (by simp [Tryz.ntmps122]) (by kernel_rfl) H
def wire_Reader_Byte (t0 : Value) (h0 : PH) (R : Value → PH → Prop) : Prop :=
 CallsH PG id_wire_Reader_get #[t0, (Value.int IntKind.i64 1)] h0 fun v1 h2 =>
 popO (SemP PG (convert T_uint64 T_int v1)) fun v3 =>
 R v3 h2
theorem wire_Reader_Byte.call {t0 : Value} {h0 : PH} {R : Value → PH → Prop} (H : wire_Reader_Byte t0 h0 R) : CallsH PG id_wire_Reader_Byte #[t0] h0 R :=
  callsF_by (an0 6) 200 mix Tryz.func123 (by kernel_rfl) (by kernel_rfl) (by kernel_rfl) (by kernel_rfl) (by simp [Tryz.ntmps123]) (by kernel_rfl) H
def wire_Reader_get_b7 (R : Value → PH → Prop) (n6 : List Value → PH → Prop) (t5 : Value) (t11 : Value) (t12 : Value) (t13 : Value) (h0 : PH) : Prop :=
 popO (SemP PG (binOp BinOp.lss T_int t13 t12)) fun v8 =>
 condV v8
 (popO (SemP PG (Instr.indexAt T_sl_uint8 t11 t13)) fun v9 =>
 popO (SemE PG h0 (Instr.loadAt T_uint8 v9)) fun v10 =>
 popO (SemP PG (binOp BinOp.shl T_uint64 t5 (Value.int IntKind.u64 8))) fun v11 =>
 popO (SemP PG (convert T_uint8 T_uint64 v10)) fun v12 =>
 popO (SemP PG (binOp BinOp.or T_uint64 v11 v12)) fun v13 =>
 popO (SemP PG (binOp BinOp.add T_int t13 (Value.int IntKind.i64 1))) fun v14 =>
 n6 [v13, t11, t12, v14] h0)
 (R t5 h0)
def wire_Reader_get (t0 : Value) (t1 : Value) (h0 : PH) (R : Value → PH → Prop) : Prop :=
 CallsH PG id_wire_Reader_Raw #[t0, t1] h0 fun v1 h2 =>
 SemH PG (convert T_string T_sl_uint8 v1) h2 fun v3 h4 =>
 popO (SemP PG (Builtin.len_ #[T_sl_uint8] T_int #[v3])) fun v5 =>
 LoopL [5, 11, 12, 13] (fun n6 ρ h => wire_Reader_get_b7 R n6 (ρ 5) (ρ 11) (ρ 12) (ρ 13) h) [(Value.int IntKind.u64 0), v3, v5, (Value.int IntKind.i64 0)] h4
theorem wire_Reader_get.call {t0 : Value} {t1 : Value} {h0 : PH} {R : Value → PH → Prop} (H : wire_Reader_get t0 t1 h0 R) : CallsH PG id_wire_Reader_get #[t0, t1] h0 R :=
  callsF_by (an1 3 [5, 11, 12, 13] 24) 200 mix Tryz.func171 (by kernel_rfl) (by kernel_rfl) (by kernel_rfl) (by kernel_rfl) (by simp [Tryz.ntmps171]) (by kernel_rfl) H
def wire_Reader_Raw_k33 (R : Value → PH → Prop) (t0 : Value) (t1 : Value) (h0 : PH) : Prop :=
 popO (SemP PG (nilS t0)) fun v34 =>
 popO (SemP PG (Instr.fieldAt T_wire_Reader v34 0)) fun v35 =>
 CallsH PG id_wire_memory_Err #[v35] h0 fun v36 h37 =>
 popO (SemE PG h37 (binS BinOp.neq T_api_Errno (.tmp 24) (.const (Value.int IntKind.i64 0)) v36 (Value.int IntKind.i64 0))) fun v38 =>
 condV v38
 (R (Value.string { data := #[] }) h37)
 (popO (SemP PG (nilS t0)) fun v39 =>
 popO (SemP PG (Instr.fieldAt T_wire_Reader v39 1)) fun v40 =>
 popO (SemE PG h37 (Instr.loadAt T_string v40)) fun v41 =>
 popO (SemP PG (Instr.sliceAt T_string v41 none (some t1) none)) fun v42 =>
 popO (SemP PG (nilS t0)) fun v43 =>
 popO (SemP PG (Instr.fieldAt T_wire_Reader v43 1)) fun v44 =>
 popO (SemE PG h37 (Instr.loadAt T_string v44)) fun v45 =>
 popO (SemP PG (Instr.sliceAt T_string v45 (some t1) none none)) fun v46 =>
 popO (SemP PG (nilS t0)) fun v47 =>
 popO (SemP PG (Instr.fieldAt T_wire_Reader v47 1)) fun v48 =>
 SemH PG (storeS T_string v48 v46) h37 fun v49 h50 =>
 R v42 h50)
def wire_Reader_Raw (t0 : Value) (t1 : Value) (h0 : PH) (R : Value → PH → Prop) : Prop :=
 popO (SemP PG (binOp BinOp.lss T_int t1 (Value.int IntKind.i64 0))) fun v1 =>
 gopV (yV v1) false (fun k4 => k4 t1 h0) h0 fun v2 h3 =>
 gopV (yV v1) false (fun k7 => k7 t0 h3) h3 fun v5 h6 =>
 gopV (yV v1) false (fun k10 => popO (SemP PG (nilS v5)) fun v11 => k10 v11 h6) h6 fun v8 h9 =>
 gopV (yV v1) false (fun k14 => popO (SemP PG (Instr.fieldAt T_wire_Reader v8 1)) fun v15 => k14 v15 h9) h9 fun v12 h13 =>
 gopV (yV v1) false (fun k18 => popO (SemE PG h13 (Instr.loadAt T_string v12)) fun v19 => k18 v19 h13) h13 fun v16 h17 =>
 gopV (yV v1) false (fun k22 => popO (SemP PG (Builtin.len_ #[T_string] T_int #[v16])) fun v23 => k22 v23 h17) h17 fun v20 h21 =>
 gopV (yV v1) false (fun k26 => popO (SemP PG (binOp BinOp.gtr T_int v2 v20)) fun v27 => k26 v27 h21) h21 fun v24 h25 =>
 popO (pickV v1 (Value.bool true) v24) fun v28 =>
 condV v28
 (popO (SemP PG (nilS t0)) fun v29 =>
 popO (SemP PG (Instr.fieldAt T_wire_Reader v29 0)) fun v30 =>
 CallsH PG id_wire_memory_Fail #[v30, (Value.int IntKind.i64 6)] h25 fun v31 h32 =>
 wire_Reader_Raw_k33 R t0 t1 h32)
 (wire_Reader_Raw_k33 R t0 t1 h25)
theorem wire_Reader_Raw.call {t0 : Value} {t1 : Value} {h0 : PH} {R : Value → PH → Prop} (H : wire_Reader_Raw t0 t1 h0 R) : CallsH PG id_wire_Reader_Raw #[t0, t1] h0 R :=
  callsF_by (an0 42) 200 mix Tryz.func174 (by kernel_rfl) (by kernel_rfl) (by kernel_rfl) (by kernel_rfl) (by simp [Tryz.ntmps174]) (by kernel_rfl) H
def proof_leaf_k72 (R : Value → PH → Prop) (t2 : Value) (t3 : Value) (h0 : PH) : Prop :=
 popO (SemE PG h0 (Instr.loadAt T_api_Leaf t3)) fun v73 =>
 SemH PG (storeS T_api_Leaf t2 v73) h0 fun v74 h75 =>
 popO (SemE PG h75 (Instr.loadAt T_api_Leaf t2)) fun v76 =>
 R v76 h75
def proof_leaf_b27 (R : Value → PH → Prop) (n26 : List Value → PH → Prop) (t0 : Value) (t2 : Value) (t3 : Value) (t4 : Value) (h0 : PH) : Prop :=
 popO (SemP PG (binOp BinOp.gtr T_int t4 (Value.int IntKind.i64 0))) fun v28 =>
 gopV (yV v28) true (fun k31 => k31 t0 h0) h0 fun v29 h30 =>
 gopV (yV v28) true (fun k34 => popO (SemP PG (nilS v29)) fun v35 => k34 v35 h30) h30 fun v32 h33 =>
 gopV (yV v28) true (fun k38 => popO (SemP PG (Instr.fieldAt T_wire_Reader v32 0)) fun v39 => k38 v39 h33) h33 fun v36 h37 =>
 gopV (yV v28) true (fun k42 => CallsH PG id_wire_memory_Err #[v36] h37 fun v43 h44 => k42 v43 h44) h37 fun v40 h41 =>
 gopV (yV v28) true (fun k47 => popO (SemE PG h41 (binS BinOp.eql T_api_Errno (.tmp 26) (.const (Value.int IntKind.i64 0)) v40 (Value.int IntKind.i64 0))) fun v48 => k47 v48 h41) h41 fun v45 h46 =>
 popO (pickV v28 v45 (Value.bool false)) fun v49 =>
 condV v49
 (popO (SemP PG (Instr.fieldAt T_api_Leaf t3 3)) fun v50 =>
 popO (SemE PG h46 (Instr.loadAt T_sl_string v50)) fun v51 =>
 CallsH PG id_wire_Reader_Raw #[t0, (Value.int IntKind.i64 32)] h46 fun v52 h53 =>
 SemE PG h53 (Instr.loadAt T_sl_string v50) = some v51 ∧ (popO (SemA PG (Instr.buildSlice T_sl_string 1 #[(0, v52)])) fun x55 => ∀ r54, h53 r54 = none → popO (SemP PG (x55.2 r54)) fun v56 => bindH (PH.set h53 r54 x55.1) fun h57 =>
 SemH PG (Builtin.append_ #[T_sl_string, T_sl_string] T_sl_string #[v51, v56]) h57 fun v58 h59 =>
 (popO (SemP PG (Instr.fieldAt T_api_Leaf t3 3)) fun v60 =>
 SemH PG (storeS T_sl_string v60 v58) h59 fun v61 h62 =>
 (popO (SemP PG (binOp BinOp.sub T_int t4 (Value.int IntKind.i64 1))) fun v63 =>
 n26 [t0, t2, t3, v63] h62))))
 (popO (SemE PG h46 (Instr.loadAt T_api_Leaf t3)) fun v64 =>
 CallsH PG id_proof_within #[v64] h46 fun v65 h66 =>
 popO (SemP PG (Op.unary UnOp.not v65)) fun v67 =>
 condV v67
 (popO (SemP PG (nilS t0)) fun v68 =>
 popO (SemP PG (Instr.fieldAt T_wire_Reader v68 0)) fun v69 =>
 CallsH PG id_wire_memory_Fail #[v69, (Value.int IntKind.i64 5)] h66 fun v70 h71 =>
 proof_leaf_k72 R t2 t3 h71)
 (proof_leaf_k72 R t2 t3 h66))
def proof_leaf (t0 : Value) (h0 : PH) (R : Value → PH → Prop) : Prop :=
 ∀ r1, h0 r1 = none → bindH (PH.set h0 r1 (.cells (zcells PG T_api_Leaf) T_api_Leaf)) fun h2 =>
 CallsH PG id_proof_small #[t0, (Value.int IntKind.u64 4096)] h2 fun v3 h4 =>
 CallsH PG id_proof_small #[t0, (Value.int IntKind.u64 4096)] h4 fun v5 h6 =>
 popO (SemP PG (Instr.build T_api_Leaf #[(0, v3), (1, v5)])) fun v7 =>
 ∀ r8, h6 r8 = none → bindH (PH.set h6 r8 (.cells (zcells PG T_api_Leaf) T_api_Leaf)) fun h9 =>
 SemH PG (storeS T_api_Leaf (Value.pointer (some ⟨r8, 0, none⟩)) v7) h9 fun v10 h11 =>
 CallsH PG id_wire_Reader_Text #[t0] h11 fun v12 h13 =>
 popO (SemP PG (Instr.fieldAt T_api_Leaf (Value.pointer (some ⟨r8, 0, none⟩)) 2)) fun v14 =>
 popO (SemP PG (Instr.fieldAt T_api_Pair v14 0)) fun v15 =>
 SemH PG (storeS T_string v15 v12) h13 fun v16 h17 =>
 CallsH PG id_wire_Reader_Text #[t0] h17 fun v18 h19 =>
 popO (SemP PG (Instr.fieldAt T_api_Leaf (Value.pointer (some ⟨r8, 0, none⟩)) 2)) fun v20 =>
 popO (SemP PG (Instr.fieldAt T_api_Pair v20 1)) fun v21 =>
 SemH PG (storeS T_string v21 v18) h19 fun v22 h23 =>
 CallsH PG id_wire_Reader_Byte #[t0] h23 fun v24 h25 =>
 LoopL [0, 2, 3, 4] (fun n26 ρ h => proof_leaf_b27 R n26 (ρ 0) (ρ 2) (ρ 3) (ρ 4) h) [t0, (Value.pointer (some ⟨r1, 0, none⟩)), (Value.pointer (some ⟨r8, 0, none⟩)), v24] h25
def proof_leaf.ann : Ann := { b := fun i => match i with | 7 => #[0, 1, 0, 4, 12, 31, 63, 127] | _ => #[], ord := fun i => match i with | 7 => [0, 1, 2, 3, 4, 5, 6, 7] | _ => [], keep := fun i => match i with | 5 => [0, 2, 3, 4] | _ => [], n := 46 }
theorem proof_leaf.call {t0 : Value} {h0 : PH} {R : Value → PH → Prop} (H : proof_leaf t0 h0 R) : CallsH PG id_proof_leaf #[t0] h0 R :=
  callsF_by proof_leaf.ann 200 mix Tryz.func124 (by kernel_rfl) (by kernel_rfl) (by kernel_rfl) (by kernel_rfl) (by simp [Tryz.ntmps124]) (by kernel_rfl) H
def proof_small (t0 : Value) (t1 : Value) (h0 : PH) (R : Value → PH → Prop) : Prop :=
 CallsH PG id_wire_Reader_Number #[t0] h0 fun v1 h2 =>
 popO (SemP PG (binOp BinOp.gtr T_uint64 v1 t1)) fun v3 =>
 condV v3
 (popO (SemP PG (nilS t0)) fun v4 =>
 popO (SemP PG (Instr.fieldAt T_wire_Reader v4 0)) fun v5 =>
 CallsH PG id_wire_memory_Fail #[v5, (Value.int IntKind.i64 5)] h2 fun v6 h7 =>
 R (Value.int IntKind.i64 0) h7)
 (popO (SemP PG (convert T_uint64 T_int v1)) fun v8 =>
 R v8 h2)
theorem proof_small.call {t0 : Value} {t1 : Value} {h0 : PH} {R : Value → PH → Prop} (H : proof_small t0 t1 h0 R) : CallsH PG id_proof_small #[t0, t1] h0 R :=
  callsF_by (an0 17) 200 mix Tryz.func172 (by kernel_rfl) (by kernel_rfl) (by kernel_rfl) (by kernel_rfl) (by simp [Tryz.ntmps172]) (by kernel_rfl) H
def wire_Reader_Number (t0 : Value) (h0 : PH) (R : Value → PH → Prop) : Prop :=
 CallsH PG id_wire_Reader_get #[t0, (Value.int IntKind.i64 8)] h0 fun v1 h2 =>
 R v1 h2
theorem wire_Reader_Number.call {t0 : Value} {h0 : PH} {R : Value → PH → Prop} (H : wire_Reader_Number t0 h0 R) : CallsH PG id_wire_Reader_Number #[t0] h0 R :=
  callsF_by (an0 5) 200 mix Tryz.func211 (by kernel_rfl) (by kernel_rfl) (by kernel_rfl) (by kernel_rfl) (by simp [Tryz.ntmps211]) (by kernel_rfl) H
def wire_Reader_Text (t0 : Value) (h0 : PH) (R : Value → PH → Prop) : Prop :=
 CallsH PG id_wire_Reader_get #[t0, (Value.int IntKind.i64 2)] h0 fun v1 h2 =>
 popO (SemP PG (convert T_uint64 T_int v1)) fun v3 =>
 CallsH PG id_wire_Reader_Raw #[t0, v3] h2 fun v4 h5 =>
 R v4 h5
theorem wire_Reader_Text.call {t0 : Value} {h0 : PH} {R : Value → PH → Prop} (H : wire_Reader_Text t0 h0 R) : CallsH PG id_wire_Reader_Text #[t0] h0 R :=
  callsF_by (an0 8) 200 mix Tryz.func173 (by kernel_rfl) (by kernel_rfl) (by kernel_rfl) (by kernel_rfl) (by simp [Tryz.ntmps173]) (by kernel_rfl) H
def wire_Reader_End (t0 : Value) (h0 : PH) (R : Value → PH → Prop) : Prop :=
 CallsH PG id_wire_Reader_Left #[t0] h0 fun v1 h2 =>
 popO (SemP PG (binOp BinOp.gtr T_int v1 (Value.int IntKind.i64 0))) fun v3 =>
 condV v3
 (R (Value.int IntKind.i64 7) h2)
 (popO (SemP PG (nilS t0)) fun v4 =>
 popO (SemP PG (Instr.fieldAt T_wire_Reader v4 0)) fun v5 =>
 CallsH PG id_wire_memory_Err #[v5] h2 fun v6 h7 =>
 R v6 h7)
theorem wire_Reader_End.call {t0 : Value} {h0 : PH} {R : Value → PH → Prop} (H : wire_Reader_End t0 h0 R) : CallsH PG id_wire_Reader_End #[t0] h0 R :=
  callsF_by (an0 10) 200 mix Tryz.func125 (by kernel_rfl) (by kernel_rfl) (by kernel_rfl) (by kernel_rfl) (by simp [Tryz.ntmps125]) (by kernel_rfl) H
def wire_Reader_Left (t0 : Value) (h0 : PH) (R : Value → PH → Prop) : Prop :=
 popO (SemP PG (nilS t0)) fun v1 =>
 popO (SemP PG (Instr.fieldAt T_wire_Reader v1 0)) fun v2 =>
 CallsH PG id_wire_memory_Err #[v2] h0 fun v3 h4 =>
 popO (SemE PG h4 (binS BinOp.neq T_api_Errno (.tmp 6) (.const (Value.int IntKind.i64 0)) v3 (Value.int IntKind.i64 0))) fun v5 =>
 condV v5
 (R (Value.int IntKind.i64 0) h4)
 (popO (SemP PG (nilS t0)) fun v6 =>
 popO (SemP PG (Instr.fieldAt T_wire_Reader v6 1)) fun v7 =>
 popO (SemE PG h4 (Instr.loadAt T_string v7)) fun v8 =>
 popO (SemP PG (Builtin.len_ #[T_string] T_int #[v8])) fun v9 =>
 R v9 h4)
theorem wire_Reader_Left.call {t0 : Value} {h0 : PH} {R : Value → PH → Prop} (H : wire_Reader_Left t0 h0 R) : CallsH PG id_wire_Reader_Left #[t0] h0 R :=
  callsF_by (an0 13) 200 mix Tryz.func175 (by kernel_rfl) (by kernel_rfl) (by kernel_rfl) (by kernel_rfl) (by simp [Tryz.ntmps175]) (by kernel_rfl) H
def proof_climb (t0 : Value) (t1 : Value) (h0 : PH) (R : Value → PH → Prop) : Prop :=
 ∀ r1, h0 r1 = none → bindH (PH.set h0 r1 (.cells (Value.cells t0) T_string)) fun h2 =>
 popO (SemP PG (Instr.makeFunc (Fn.func id_proof_climb_1) #[] #[(Value.pointer (some ⟨r1, 0, none⟩))])) fun v3 =>
 CallsH PG id_slices_ContainsFunc_sl_api_Leaf_api_Leaf #[t1, v3] h2 fun v4 h5 =>
 popO (SemP PG (Op.unary UnOp.not v4)) fun v6 =>
 R v6 h5
theorem proof_climb.call {t0 : Value} {t1 : Value} {h0 : PH} {R : Value → PH → Prop} (H : proof_climb t0 t1 h0 R) : CallsH PG id_proof_climb #[t0, t1] h0 R :=
  callsF_by (an0 9) 200 mix Tryz.func54 (by kernel_rfl) (by kernel_rfl) (by kernel_rfl) (by kernel_rfl) (by simp [Tryz.ntmps54]) (by kernel_rfl) H
def proof_climb_1 (t0 : Value) (t1 : Value) (h0 : PH) (R : Value → PH → Prop) : Prop :=
 ∀ r1, h0 r1 = none → bindH (PH.set h0 r1 (.cells (Value.cells t0) T_api_Leaf)) fun h2 =>
 popO (SemE PG h2 (Instr.loadAt T_api_Leaf (Value.pointer (some ⟨r1, 0, none⟩)))) fun v3 =>
 CallsH PG id_merkle_Climb #[v3] h2 fun v4 h5 =>
 popO (SemP PG (Instr.extract v4 0)) fun v6 =>
 popO (SemP PG (Instr.extract v4 1)) fun v7 =>
 popO (SemP PG (Op.unary UnOp.not v7)) fun v8 =>
 gopV (yV v8) false (fun k11 => k11 v6 h5) h5 fun v9 h10 =>
 gopV (yV v8) false (fun k14 => popO (SemE PG h10 (Instr.loadAt T_string t1)) fun v15 => k14 v15 h10) h10 fun v12 h13 =>
 gopV (yV v8) false (fun k18 => popO (SemE PG h13 (binS BinOp.neq T_string (.tmp 14) (.tmp 15) v9 v12)) fun v19 => k18 v19 h13) h13 fun v16 h17 =>
 popO (pickV v8 (Value.bool true) v16) fun v20 =>
 R v20 h17
theorem proof_climb_1.call {t0 : Value} {t1 : Value} {h0 : PH} {R : Value → PH → Prop} (H : proof_climb_1 t0 t1 h0 R) : CallsH PG id_proof_climb_1 #[t0, t1] h0 R :=
  callsF_by (an0 18) 200 mix Tryz.func126 (by kernel_rfl) (by kernel_rfl) (by kernel_rfl) (by kernel_rfl) (by simp [Tryz.ntmps126]) (by kernel_rfl) H
def merkle_Climb (t0 : Value) (h0 : PH) (R : Value → PH → Prop) : Prop :=
 ∀ r1, h0 r1 = none → bindH (PH.set h0 r1 (.cells (Value.cells t0) T_api_Leaf)) fun h2 =>
 popO (SemP PG (Instr.fieldAt T_api_Leaf (Value.pointer (some ⟨r1, 0, none⟩)) 1)) fun v3 =>
 popO (SemE PG h2 (Instr.loadAt T_int v3)) fun v4 =>
 popO (SemP PG (binOp BinOp.lss T_int v4 (Value.int IntKind.i64 1))) fun v5 =>
 gopV (yV v5) false (fun k8 => popO (SemP PG (Instr.fieldAt T_api_Leaf (Value.pointer (some ⟨r1, 0, none⟩)) 1)) fun v9 => k8 v9 h2) h2 fun v6 h7 =>
 gopV (yV v5) false (fun k12 => popO (SemE PG h7 (Instr.loadAt T_int v6)) fun v13 => k12 v13 h7) h7 fun v10 h11 =>
 gopV (yV v5) false (fun k16 => popO (SemP PG (binOp BinOp.gtr T_int v10 (Value.int IntKind.i64 4096))) fun v17 => k16 v17 h11) h11 fun v14 h15 =>
 popO (pickV v5 (Value.bool true) v14) fun v18 =>
 gopV (yV v18) false (fun k21 => popO (SemP PG (Instr.fieldAt T_api_Leaf (Value.pointer (some ⟨r1, 0, none⟩)) 0)) fun v22 => k21 v22 h15) h15 fun v19 h20 =>
 gopV (yV v18) false (fun k25 => popO (SemE PG h20 (Instr.loadAt T_int v19)) fun v26 => k25 v26 h20) h20 fun v23 h24 =>
 gopV (yV v18) false (fun k29 => popO (SemP PG (binOp BinOp.lss T_int v23 (Value.int IntKind.i64 0))) fun v30 => k29 v30 h24) h24 fun v27 h28 =>
 popO (pickV v18 (Value.bool true) v27) fun v31 =>
 gopV (yV v31) false (fun k34 => popO (SemP PG (Instr.fieldAt T_api_Leaf (Value.pointer (some ⟨r1, 0, none⟩)) 0)) fun v35 => k34 v35 h28) h28 fun v32 h33 =>
 gopV (yV v31) false (fun k38 => popO (SemE PG h33 (Instr.loadAt T_int v32)) fun v39 => k38 v39 h33) h33 fun v36 h37 =>
 gopV (yV v31) false (fun k42 => popO (SemP PG (Instr.fieldAt T_api_Leaf (Value.pointer (some ⟨r1, 0, none⟩)) 1)) fun v43 => k42 v43 h37) h37 fun v40 h41 =>
 gopV (yV v31) false (fun k46 => popO (SemE PG h41 (Instr.loadAt T_int v40)) fun v47 => k46 v47 h41) h41 fun v44 h45 =>
 gopV (yV v31) false (fun k50 => popO (SemP PG (binOp BinOp.geq T_int v36 v44)) fun v51 => k50 v51 h45) h45 fun v48 h49 =>
 popO (pickV v31 (Value.bool true) v48) fun v52 =>
 condV v52
 (R (Value.tuple #[(Value.string { data := #[] }), (Value.bool false)]) h49)
 (popO (SemP PG (Instr.fieldAt T_api_Leaf (Value.pointer (some ⟨r1, 0, none⟩)) 3)) fun v53 =>
 popO (SemE PG h49 (Instr.loadAt T_sl_string v53)) fun v54 =>
 ∀ r55, h49 r55 = none → bindH (PH.set h49 r55 (.cells (zcells PG T_sl_string) T_sl_string)) fun h56 =>
 ∀ r57, h56 r57 = none → bindH (PH.set h56 r57 (.cells (zcells PG T_bool) T_bool)) fun h58 =>
 SemH PG (storeS T_sl_string (Value.pointer (some ⟨r55, 0, none⟩)) v54) h58 fun v59 h60 =>
 SemH PG (storeS T_bool (Value.pointer (some ⟨r57, 0, none⟩)) (Value.bool true)) h60 fun v61 h62 =>
 ∀ r63, h62 r63 = none → bindH (PH.set h62 r63 (.cells (zcells PG T_func_int_int_string) T_func_int_int_string)) fun h64 =>
 popO (SemP PG (Instr.makeFunc (Fn.func id_merkle_Climb_1) #[] #[(Value.pointer (some ⟨r1, 0, none⟩)), (Value.pointer (some ⟨r55, 0, none⟩)), (Value.pointer (some ⟨r57, 0, none⟩)), (Value.pointer (some ⟨r63, 0, none⟩))])) fun v65 =>
 SemH PG (storeS T_func_int_int_string (Value.pointer (some ⟨r63, 0, none⟩)) v65) h64 fun v66 h67 =>
 popO (SemE PG h67 (Instr.loadAt T_func_int_int_string (Value.pointer (some ⟨r63, 0, none⟩)))) fun v68 =>
 popO (SemP PG (Instr.fieldAt T_api_Leaf (Value.pointer (some ⟨r1, 0, none⟩)) 0)) fun v69 =>
 popO (SemE PG h67 (Instr.loadAt T_int v69)) fun v70 =>
 popO (SemP PG (Instr.fieldAt T_api_Leaf (Value.pointer (some ⟨r1, 0, none⟩)) 1)) fun v71 =>
 popO (SemE PG h67 (Instr.loadAt T_int v71)) fun v72 =>
 callC PG v68 #[v70, v72] h67 fun v73 h74 =>
 popO (SemE PG h74 (Instr.loadAt T_bool (Value.pointer (some ⟨r57, 0, none⟩)))) fun v75 =>
 popO (SemP PG (Op.unary UnOp.not v75)) fun v76 =>
 gopV (yV v76) false (fun k79 => popO (SemE PG h74 (Instr.loadAt T_sl_string (Value.pointer (some ⟨r55, 0, none⟩)))) fun v80 => k79 v80 h74) h74 fun v77 h78 =>
 gopV (yV v76) false (fun k83 => popO (SemP PG (Builtin.len_ #[T_sl_string] T_int #[v77])) fun v84 => k83 v84 h78) h78 fun v81 h82 =>
 gopV (yV v76) false (fun k87 => popO (SemP PG (binOp BinOp.gtr T_int v81 (Value.int IntKind.i64 0))) fun v88 => k87 v88 h82) h82 fun v85 h86 =>
 popO (pickV v76 (Value.bool true) v85) fun v89 =>
 condV v89
 (R (Value.tuple #[(Value.string { data := #[] }), (Value.bool false)]) h86)
 (popO (SemP PG (Instr.fieldAt T_api_Leaf (Value.pointer (some ⟨r1, 0, none⟩)) 1)) fun v90 =>
 popO (SemE PG h86 (Instr.loadAt T_int v90)) fun v91 =>
 CallsH PG id_merkle_Top #[v91, v73] h86 fun v92 h93 =>
 R (Value.tuple #[v92, (Value.bool true)]) h93))
theorem merkle_Climb.call {t0 : Value} {h0 : PH} {R : Value → PH → Prop} (H : merkle_Climb t0 h0 R) : CallsH PG id_merkle_Climb #[t0] h0 R :=
  callsF_by (an0 48) 200 mix Tryz.func127 (by kernel_rfl) (by kernel_rfl) (by kernel_rfl) (by kernel_rfl) (by simp [Tryz.ntmps127]) (by kernel_rfl) H
def merkle_Climb_1 (t0 : Value) (t1 : Value) (t2 : Value) (t3 : Value) (t4 : Value) (t5 : Value) (h0 : PH) (R : Value → PH → Prop) : Prop :=
 popO (SemE PG h0 (binS BinOp.eql T_int (.tmp 11) (.const (Value.int IntKind.i64 1)) t1 (Value.int IntKind.i64 1))) fun v1 =>
 condV v1
 (popO (SemP PG (Instr.fieldAt T_api_Leaf t2 2)) fun v2 =>
 popO (SemE PG h0 (Instr.loadAt T_api_Pair v2)) fun v3 =>
 CallsH PG id_merkle_Leaf #[v3] h0 fun v4 h5 =>
 R v4 h5)
 (CallsH PG id_merkle_left #[t1] h0 fun v6 h7 =>
 popO (SemE PG h7 (Instr.loadAt T_sl_string t3)) fun v8 =>
 popO (SemP PG (Builtin.len_ #[T_sl_string] T_int #[v8])) fun v9 =>
 popO (SemE PG h7 (binS BinOp.eql T_int (.tmp 19) (.const (Value.int IntKind.i64 0)) v9 (Value.int IntKind.i64 0))) fun v10 =>
 gopV (yV v10) false (fun k13 => popO (SemE PG h7 (Instr.loadAt T_sl_string t3)) fun v14 => k13 v14 h7) h7 fun v11 h12 =>
 gopV (yV v10) false (fun k17 => popO (SemE PG h12 (Instr.loadAt T_sl_string t3)) fun v18 => k17 v18 h12) h12 fun v15 h16 =>
 gopV (yV v10) false (fun k21 => popO (SemP PG (Builtin.len_ #[T_sl_string] T_int #[v15])) fun v22 => k21 v22 h16) h16 fun v19 h20 =>
 gopV (yV v10) false (fun k25 => popO (SemP PG (binOp BinOp.sub T_int v19 (Value.int IntKind.i64 1))) fun v26 => k25 v26 h20) h20 fun v23 h24 =>
 gopV (yV v10) false (fun k29 => popO (SemP PG (Instr.indexAt T_sl_string v11 v23)) fun v30 => k29 v30 h24) h24 fun v27 h28 =>
 gopV (yV v10) false (fun k33 => popO (SemE PG h28 (Instr.loadAt T_string v27)) fun v34 => k33 v34 h28) h28 fun v31 h32 =>
 gopV (yV v10) false (fun k37 => popO (SemP PG (Builtin.len_ #[T_string] T_int #[v31])) fun v38 => k37 v38 h32) h32 fun v35 h36 =>
 gopV (yV v10) false (fun k41 => popO (SemE PG h36 (binS BinOp.neq T_int (.tmp 28) (.const (Value.int IntKind.i64 32)) v35 (Value.int IntKind.i64 32))) fun v42 => k41 v42 h36) h36 fun v39 h40 =>
 popO (pickV v10 (Value.bool true) v39) fun v43 =>
 condV v43
 (SemH PG (storeS T_bool t4 (Value.bool false)) h40 fun v44 h45 =>
 R (Value.string { data := #[] }) h45)
 (popO (SemE PG h40 (Instr.loadAt T_sl_string t3)) fun v46 =>
 popO (SemE PG h40 (Instr.loadAt T_sl_string t3)) fun v47 =>
 popO (SemP PG (Builtin.len_ #[T_sl_string] T_int #[v47])) fun v48 =>
 popO (SemP PG (binOp BinOp.sub T_int v48 (Value.int IntKind.i64 1))) fun v49 =>
 popO (SemP PG (Instr.indexAt T_sl_string v46 v49)) fun v50 =>
 popO (SemE PG h40 (Instr.loadAt T_string v50)) fun v51 =>
 popO (SemE PG h40 (Instr.loadAt T_sl_string t3)) fun v52 =>
 popO (SemE PG h40 (Instr.loadAt T_sl_string t3)) fun v53 =>
 popO (SemP PG (Builtin.len_ #[T_sl_string] T_int #[v53])) fun v54 =>
 popO (SemP PG (binOp BinOp.sub T_int v54 (Value.int IntKind.i64 1))) fun v55 =>
 popO (SemP PG (Instr.sliceAt T_sl_string v52 none (some v55) none)) fun v56 =>
 SemH PG (storeS T_sl_string t3 v56) h40 fun v57 h58 =>
 popO (SemP PG (binOp BinOp.lss T_int t0 v6)) fun v59 =>
 condV v59
 (popO (SemE PG h58 (Instr.loadAt T_func_int_int_string t5)) fun v60 =>
 callC PG v60 #[t0, v6] h58 fun v61 h62 =>
 CallsH PG id_merkle_both #[v61, v51] h62 fun v63 h64 =>
 R v63 h64)
 (popO (SemE PG h58 (Instr.loadAt T_func_int_int_string t5)) fun v65 =>
 popO (SemP PG (binOp BinOp.sub T_int t0 v6)) fun v66 =>
 popO (SemP PG (binOp BinOp.sub T_int t1 v6)) fun v67 =>
 callC PG v65 #[v66, v67] h58 fun v68 h69 =>
 CallsH PG id_merkle_both #[v51, v68] h69 fun v70 h71 =>
 R v70 h71)))
theorem merkle_Climb_1.call {t0 : Value} {t1 : Value} {t2 : Value} {t3 : Value} {t4 : Value} {t5 : Value} {h0 : PH} {R : Value → PH → Prop} (H : merkle_Climb_1 t0 t1 t2 t3 t4 t5 h0 R) : CallsH PG id_merkle_Climb_1 #[t0, t1, t2, t3, t4, t5] h0 R :=
  callsF_by (an0 61) 200 mix Tryz.func176 (by kernel_rfl) (by kernel_rfl) (by kernel_rfl) (by kernel_rfl) (by simp [Tryz.ntmps176]) (by kernel_rfl) H
def chain_from (t0 : Value) (t1 : Value) (h0 : PH) (R : Value → PH → Prop) : Prop :=
 ∀ r1, h0 r1 = none → bindH (PH.set h0 r1 (.cells (Value.cells t0) T_api_Packet)) fun h2 =>
 ∀ r3, h2 r3 = none → bindH (PH.set h2 r3 (.cells (Value.cells t1) T_int)) fun h4 =>
 ∀ r5, h4 r5 = none → bindH (PH.set h4 r5 (.cells (zcells PG T_chain_rule) T_chain_rule)) fun h6 =>
 popO (SemP PG (Instr.makeFunc (Fn.func id_chain_from_1) #[] #[(Value.pointer (some ⟨r1, 0, none⟩)), (Value.pointer (some ⟨r3, 0, none⟩))])) fun v7 =>
 popO (SemP PG (Instr.build T_chain_rule #[(0, v7), (1, (Value.int IntKind.i64 1))])) fun v8 =>
 SemH PG (storeS T_chain_rule (Value.pointer (some ⟨r5, 0, none⟩)) v8) h6 fun v9 h10 =>
 popO (SemE PG h10 (Instr.loadAt T_chain_rule (Value.pointer (some ⟨r5, 0, none⟩)))) fun v11 =>
 R v11 h10
theorem chain_from.call {t0 : Value} {t1 : Value} {h0 : PH} {R : Value → PH → Prop} (H : chain_from t0 t1 h0 R) : CallsH PG id_chain_from #[t0, t1] h0 R :=
  callsF_by (an0 7) 200 mix Tryz.func79 (by kernel_rfl) (by kernel_rfl) (by kernel_rfl) (by kernel_rfl) (by simp [Tryz.ntmps79]) (by kernel_rfl) H
def chain_from_1 (t0 : Value) (t1 : Value) (h0 : PH) (R : Value → PH → Prop) : Prop :=
 popO (SemE PG h0 (Instr.loadAt T_api_Packet t0)) fun v1 =>
 CallsH PG id_packet_Check #[v1] h0 fun v2 h3 =>
 popO (SemE PG h3 (binS BinOp.eql T_api_Errno (.tmp 4) (.const (Value.int IntKind.i64 0)) v2 (Value.int IntKind.i64 0))) fun v4 =>
 gopV (yV v4) true (fun k7 => popO (SemP PG (Instr.fieldAt T_api_Packet t0 0)) fun v8 => k7 v8 h3) h3 fun v5 h6 =>
 gopV (yV v4) true (fun k11 => popO (SemE PG h6 (Instr.loadAt T_int v5)) fun v12 => k11 v12 h6) h6 fun v9 h10 =>
 gopV (yV v4) true (fun k15 => popO (SemE PG h10 (Instr.loadAt T_int t1)) fun v16 => k15 v16 h10) h10 fun v13 h14 =>
 gopV (yV v4) true (fun k19 => popO (SemE PG h14 (binS BinOp.eql T_int (.tmp 8) (.tmp 9) v9 v13)) fun v20 => k19 v20 h14) h14 fun v17 h18 =>
 popO (pickV v4 v17 (Value.bool false)) fun v21 =>
 R v21 h18
theorem chain_from_1.call {t0 : Value} {t1 : Value} {h0 : PH} {R : Value → PH → Prop} (H : chain_from_1 t0 t1 h0 R) : CallsH PG id_chain_from_1 #[t0, t1] h0 R :=
  callsF_by (an0 12) 200 mix Tryz.func146 (by kernel_rfl) (by kernel_rfl) (by kernel_rfl) (by kernel_rfl) (by simp [Tryz.ntmps146]) (by kernel_rfl) H
def chain_Chain_Recv_2 (t0 : Value) (t1 : Value) (h0 : PH) (R : Value → PH → Prop) : Prop :=
 popO (SemP PG (Instr.fieldAt T_api_Packet t0 2)) fun v1 =>
 popO (SemE PG h0 (Instr.loadAt T_uint64 v1)) fun v2 =>
 popO (SemE PG h0 (Instr.loadAt T_p_chain_Chain t1)) fun v3 =>
 popO (SemP PG (nilS v3)) fun v4 =>
 popO (SemP PG (Instr.fieldAt T_chain_Chain v4 0)) fun v5 =>
 popO (SemP PG (Instr.fieldAt T_chain_ledger v5 0)) fun v6 =>
 popO (SemE PG h0 (Instr.loadAt T_p_store_Store v6)) fun v7 =>
 CallsH PG id_store_Store_Height #[v7] h0 fun v8 h9 =>
 SemE PG h9 (Instr.loadAt T_uint64 v1) = some v2 ∧ (popO (SemP PG (binOp BinOp.add T_uint64 v8 (Value.int IntKind.u64 1))) fun v10 =>
 popO (SemP PG (binOp BinOp.gtr T_uint64 v2 v10)) fun v11 =>
 R v11 h9)
def chain_Chain_Recv_2.ann : Ann := { b := fun i => match i with | 1 => #[0, 1, 0, 4, 12, 28, 60, 124, 252, 511, 1023] | _ => #[], ord := fun i => match i with | 1 => [0, 1, 2, 3, 4, 5, 6, 7, 8, 9, 10] | _ => [], keep := fun i => match i with  | _ => [], n := 13 }
theorem chain_Chain_Recv_2.call {t0 : Value} {t1 : Value} {h0 : PH} {R : Value → PH → Prop} (H : chain_Chain_Recv_2 t0 t1 h0 R) : CallsH PG id_chain_Chain_Recv_2 #[t0, t1] h0 R :=
  callsF_by chain_Chain_Recv_2.ann 200 mix Tryz.func80 (by kernel_rfl) (by kernel_rfl) (by kernel_rfl) (by kernel_rfl) (by simp [Tryz.ntmps80]) (by kernel_rfl) H
def chain_Chain_Recv_3 (t0 : Value) (t1 : Value) (h0 : PH) (R : Value → PH → Prop) : Prop :=
 popO (SemE PG h0 (Instr.loadAt T_p_chain_Chain t0)) fun v1 =>
 popO (SemP PG (nilS v1)) fun v2 =>
 popO (SemP PG (Instr.fieldAt T_chain_Chain v2 0)) fun v3 =>
 popO (SemP PG (Instr.fieldAt T_chain_ledger v3 0)) fun v4 =>
 popO (SemE PG h0 (Instr.loadAt T_p_store_Store v4)) fun v5 =>
 popO (SemP PG (Instr.fieldAt T_api_Packet t1 1)) fun v6 =>
 popO (SemE PG h0 (Instr.loadAt T_uint64 v6)) fun v7 =>
 CallsH PG id_packet_Received #[v7] h0 fun v8 h9 =>
 SemE PG h9 (Instr.loadAt T_p_store_Store v4) = some v5 ∧ SemE PG h9 (Instr.loadAt T_p_chain_Chain t0) = some v1 ∧ (CallsH PG id_store_Store_Get #[v5, v8] h9 fun v10 h11 =>
 (popO (SemP PG (Instr.extract v10 0)) fun v12 =>
 popO (SemP PG (Instr.extract v10 1)) fun v13 =>
 popO (SemP PG (Op.unary UnOp.not v13)) fun v14 =>
 R v14 h11))
def chain_Chain_Recv_3.ann : Ann := { b := fun i => match i with | 1 => #[0, 1, 3, 7, 15, 0, 32, 96, 255, 511, 1023, 1023, 2047, 8191] | _ => #[], ord := fun i => match i with | 1 => [0, 1, 2, 3, 4, 5, 6, 7, 8, 9, 10, 11, 12, 13] | _ => [], keep := fun i => match i with  | _ => [], n := 19 }
theorem chain_Chain_Recv_3.call {t0 : Value} {t1 : Value} {h0 : PH} {R : Value → PH → Prop} (H : chain_Chain_Recv_3 t0 t1 h0 R) : CallsH PG id_chain_Chain_Recv_3 #[t0, t1] h0 R :=
  callsF_by chain_Chain_Recv_3.ann 200 mix Tryz.func81 (by kernel_rfl) (by kernel_rfl) (by kernel_rfl) (by kernel_rfl) (by simp [Tryz.ntmps81]) (by kernel_rfl) H
def store_Store_Get (t0 : Value) (t1 : Value) (h0 : PH) (R : Value → PH → Prop) : Prop :=
 popO (SemP PG (nilS t0)) fun v1 =>
 popO (SemP PG (Instr.fieldAt T_store_Store v1 0)) fun v2 =>
 popO (SemE PG h0 (Instr.loadAt T_map_string_string v2)) fun v3 =>
 popO (SemE PG h0 (Instr.lookup T_map_string_string v3 t1 true)) fun v4 =>
 popO (SemP PG (Instr.extract v4 0)) fun v5 =>
 popO (SemP PG (Instr.extract v4 1)) fun v6 =>
 R (Value.tuple #[v5, v6]) h0
theorem store_Store_Get.call {t0 : Value} {t1 : Value} {h0 : PH} {R : Value → PH → Prop} (H : store_Store_Get t0 t1 h0 R) : CallsH PG id_store_Store_Get #[t0, t1] h0 R :=
  callsF_by (an0 19) 200 mix Tryz.func15 (by kernel_rfl) (by kernel_rfl) (by kernel_rfl) (by kernel_rfl) (by simp [Tryz.ntmps15]) (by kernel_rfl) H
def packet_Received (t0 : Value) (h0 : PH) (R : Value → PH → Prop) : Prop :=
 CallsH PG id_packet_key #[(Value.string { data := #[114] }), t0] h0 fun v1 h2 =>
 R v1 h2
theorem packet_Received.call {t0 : Value} {h0 : PH} {R : Value → PH → Prop} (H : packet_Received t0 h0 R) : CallsH PG id_packet_Received #[t0] h0 R :=
  callsF_by (an0 5) 200 mix Tryz.func82 (by kernel_rfl) (by kernel_rfl) (by kernel_rfl) (by kernel_rfl) (by simp [Tryz.ntmps82]) (by kernel_rfl) H
def chain_Chain_Recv_4 (t0 : Value) (h0 : PH) (R : Value → PH → Prop) : Prop :=
 popO (SemE PG h0 (Instr.loadAt T_p_chain_Chain t0)) fun v1 =>
 popO (SemP PG (nilS v1)) fun v2 =>
 popO (SemP PG (Instr.fieldAt T_chain_Chain v2 0)) fun v3 =>
 CallsH PG id_chain_ledger_room #[v3, (Value.int IntKind.i64 2)] h0 fun v4 h5 =>
 R v4 h5
theorem chain_Chain_Recv_4.call {t0 : Value} {h0 : PH} {R : Value → PH → Prop} (H : chain_Chain_Recv_4 t0 h0 R) : CallsH PG id_chain_Chain_Recv_4 #[t0] h0 R :=
  callsF_by (an0 6) 200 mix Tryz.func83 (by kernel_rfl) (by kernel_rfl) (by kernel_rfl) (by kernel_rfl) (by simp [Tryz.ntmps83]) (by kernel_rfl) H
def packet_Answered (t0 : Value) (h0 : PH) (R : Value → PH → Prop) : Prop :=
 CallsH PG id_packet_key #[(Value.string { data := #[97] }), t0] h0 fun v1 h2 =>
 R v1 h2
theorem packet_Answered.call {t0 : Value} {h0 : PH} {R : Value → PH → Prop} (H : packet_Answered t0 h0 R) : CallsH PG id_packet_Answered #[t0] h0 R :=
  callsF_by (an0 5) 200 mix Tryz.func84 (by kernel_rfl) (by kernel_rfl) (by kernel_rfl) (by kernel_rfl) (by simp [Tryz.ntmps84]) (by kernel_rfl) H
def packet_Answer (t0 : Value) (h0 : PH) (R : Value → PH → Prop) : Prop :=
 ∀ r1, h0 r1 = none → bindH (PH.set h0 r1 (.cells (Value.cells t0) T_api_Packet)) fun h2 =>
 popO (SemE PG h2 (Instr.loadAt T_api_Packet (Value.pointer (some ⟨r1, 0, none⟩)))) fun v3 =>
 popO (SemA PG (Instr.buildSlice T_sl_string 1 #[(0, (Value.string { data := #[97, 99, 107] }))])) fun x5 => ∀ r4, h2 r4 = none → popO (SemP PG (x5.2 r4)) fun v6 => bindH (PH.set h2 r4 x5.1) fun h7 =>
 CallsH PG id_packet_digest #[v3, v6] h7 fun v8 h9 =>
 R v8 h9
theorem packet_Answer.call {t0 : Value} {h0 : PH} {R : Value → PH → Prop} (H : packet_Answer t0 h0 R) : CallsH PG id_packet_Answer #[t0] h0 R :=
  callsF_by (an0 6) 200 mix Tryz.func85 (by kernel_rfl) (by kernel_rfl) (by kernel_rfl) (by kernel_rfl) (by simp [Tryz.ntmps85]) (by kernel_rfl) H
def chain_Chain_Ack (t0 : Value) (t1 : Value) (t2 : Value) (t3 : Value) (h0 : PH) (R : Value → PH → Prop) : Prop :=
 ∀ r1, h0 r1 = none → bindH (PH.set h0 r1 (.cells (Value.cells t1) T_api_Packet)) fun h2 =>
 ∀ r3, h2 r3 = none → bindH (PH.set h2 r3 (.cells (Value.cells t2) T_string)) fun h4 =>
 popO (SemP PG (Instr.makeFunc (Fn.func id_chain_Chain_Ack_1) #[] #[(Value.pointer (some ⟨r3, 0, none⟩)), (Value.pointer (some ⟨r1, 0, none⟩))])) fun v5 =>
 CallsH PG id_chain_Chain_proved #[t0, t3, v5] h4 fun v6 h7 =>
 popO (SemP PG (Instr.extract v6 0)) fun v8 =>
 popO (SemP PG (Instr.extract v6 1)) fun v9 =>
 ∀ r10, h7 r10 = none → bindH (PH.set h7 r10 (.cells (zcells PG T_chain_rule) T_chain_rule)) fun h11 =>
 ∀ r12, h11 r12 = none → bindH (PH.set h11 r12 (.cells (zcells PG T_chain_rule) T_chain_rule)) fun h13 =>
 SemH PG (storeS T_chain_rule (Value.pointer (some ⟨r10, 0, none⟩)) v8) h13 fun v14 h15 =>
 SemH PG (storeS T_chain_rule (Value.pointer (some ⟨r12, 0, none⟩)) v9) h15 fun v16 h17 =>
 popO (SemE PG h17 (Instr.loadAt T_api_Packet (Value.pointer (some ⟨r1, 0, none⟩)))) fun v18 =>
 popO (SemE PG h17 (Instr.loadAt T_chain_rule (Value.pointer (some ⟨r10, 0, none⟩)))) fun v19 =>
 popO (SemE PG h17 (Instr.loadAt T_chain_rule (Value.pointer (some ⟨r12, 0, none⟩)))) fun v20 =>
 popO (SemA PG (Instr.buildSlice T_sl_chain_rule 2 #[(0, v19), (1, v20)])) fun x22 => ∀ r21, h17 r21 = none → popO (SemP PG (x22.2 r21)) fun v23 => bindH (PH.set h17 r21 x22.1) fun h24 =>
 CallsH PG id_chain_Chain_settle #[t0, (Value.int IntKind.i64 3), v18, v23] h24 fun v25 h26 =>
 R v25 h26
theorem chain_Chain_Ack.call {t0 : Value} {t1 : Value} {t2 : Value} {t3 : Value} {h0 : PH} {R : Value → PH → Prop} (H : chain_Chain_Ack t0 t1 t2 t3 h0 R) : CallsH PG id_chain_Chain_Ack #[t0, t1, t2, t3] h0 R :=
  callsF_by (an0 24) 200 mix Tryz.func37 (by kernel_rfl) (by kernel_rfl) (by kernel_rfl) (by kernel_rfl) (by simp [Tryz.ntmps37]) (by kernel_rfl) H
def chain_Chain_Ack_1 (t0 : Value) (t1 : Value) (t2 : Value) (h0 : PH) (R : Value → PH → Prop) : Prop :=
 popO (SemE PG h0 (Instr.loadAt T_string t1)) fun v1 =>
 popO (SemP PG (Instr.fieldAt T_api_Packet t2 1)) fun v2 =>
 popO (SemE PG h0 (Instr.loadAt T_uint64 v2)) fun v3 =>
 popO (SemE PG h0 (Instr.loadAt T_api_Packet t2)) fun v4 =>
 CallsH PG id_packet_Answered #[v3] h0 fun v5 h6 =>
 SemE PG h6 (Instr.loadAt T_api_Packet t2) = some v4 ∧ SemE PG h6 (Instr.loadAt T_string t1) = some v1 ∧ (CallsH PG id_packet_Answer #[v4] h6 fun v7 h8 =>
 SemE PG h8 (Instr.loadAt T_string t1) = some v1 ∧ (CallsH PG id_proof_Has #[t0, v1, v5, v7] h8 fun v9 h10 =>
 (R v9 h10)))
def chain_Chain_Ack_1.ann : Ann := { b := fun i => match i with | 1 => #[0, 0, 0, 4, 12, 0, 60, 127, 255] | _ => #[], ord := fun i => match i with | 1 => [0, 1, 2, 3, 5, 4, 6, 7, 8] | _ => [], keep := fun i => match i with  | _ => [], n := 13 }
theorem chain_Chain_Ack_1.call {t0 : Value} {t1 : Value} {t2 : Value} {h0 : PH} {R : Value → PH → Prop} (H : chain_Chain_Ack_1 t0 t1 t2 h0 R) : CallsH PG id_chain_Chain_Ack_1 #[t0, t1, t2] h0 R :=
  callsF_by chain_Chain_Ack_1.ann 200 mix Tryz.func86 (by kernel_rfl) (by kernel_rfl) (by kernel_rfl) (by kernel_rfl) (by simp [Tryz.ntmps86]) (by kernel_rfl) H
end Go.Proofs.YtcoajnpchhmgjaaGreatDoor
