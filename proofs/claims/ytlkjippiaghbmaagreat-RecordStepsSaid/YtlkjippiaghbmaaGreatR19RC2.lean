/- The texts of this claim, put together. -/
import Derived.Test.YtlkjippiaghbmaaGreatR19RC1
/- What the functions of this program do on a part of memory, by program (prt.py) out of Lean's own print of them; for each the theorem that its code is that. -/
set_option maxRecDepth 100000
set_option linter.unusedVariables false
namespace Go.Proofs.YtlkjippiaghbmaaGreat
open Go
def carracklaw17_RecordSteps (t0 : Value) (t1 : Value) (t2 : Value) (h0 : PH) (R : Value → PH → Prop) : Prop :=
 ∀ r1, h0 r1 = none → bindH (PH.set h0 r1 (.cells (Value.cells t0) T_api_Daemon)) fun h2 =>
 ∀ r3, h2 r3 = none → bindH (PH.set h2 r3 (.cells (Value.cells t2) T_api_Record)) fun h4 =>
 CallsH PG id_carracklaw17_awake #[] h4 fun v5 h6 =>
 popO (SemP PG (Op.unary UnOp.not v5)) fun v7 =>
 condV v7
 (R (Value.bool false) h6)
 (popO (SemE PG h6 (Instr.loadAt T_api_Record (Value.pointer (some ⟨r3, 0, none⟩)))) fun v8 =>
 CallsH PG id_carracklaw17_few #[v8] h6 fun v9 h10 =>
 popO (SemP PG (Op.unary UnOp.not v9)) fun v11 =>
 gopV (yV v11) false (fun k14 => popO (SemE PG h10 (Instr.loadAt T_api_Daemon (Value.pointer (some ⟨r1, 0, none⟩)))) fun v15 => k14 v15 h10) h10 fun v12 h13 =>
 gopV (yV v11) false (fun k18 => popO (SemP PG (Instr.build T_api_Record #[(1, v12)])) fun v19 => k18 v19 h13) h13 fun v16 h17 =>
 gopV (yV v11) false (fun k22 => CallsH PG id_carracklaw17_few #[v16] h17 fun v23 h24 => k22 v23 h24) h17 fun v20 h21 =>
 gopV (yV v11) false (fun k27 => popO (SemP PG (Op.unary UnOp.not v20)) fun v28 => k27 v28 h21) h21 fun v25 h26 =>
 popO (pickV v11 (Value.bool true) v25) fun v29 =>
 condV v29
 (R (Value.bool true) h26)
 (popO (SemE PG h26 (Instr.loadAt T_api_Daemon (Value.pointer (some ⟨r1, 0, none⟩)))) fun v30 =>
 popO (SemE PG h26 (Instr.loadAt T_api_Record (Value.pointer (some ⟨r3, 0, none⟩)))) fun v31 =>
 CallsH PG id_record_Step #[v30, t1, v31] h26 fun v32 h33 =>
 popO (SemP PG (Instr.extract v32 0)) fun v34 =>
 popO (SemP PG (Instr.extract v32 1)) fun v35 =>
 ∀ r36, h33 r36 = none → bindH (PH.set h33 r36 (.cells (zcells PG T_api_Daemon) T_api_Daemon)) fun h37 =>
 SemH PG (storeS T_api_Daemon (Value.pointer (some ⟨r36, 0, none⟩)) v34) h37 fun v38 h39 =>
 popO (SemE PG h39 (Instr.loadAt T_api_Daemon (Value.pointer (some ⟨r1, 0, none⟩)))) fun v40 =>
 popO (SemE PG h39 (Instr.loadAt T_api_Record (Value.pointer (some ⟨r3, 0, none⟩)))) fun v41 =>
 CallsH PG id_carrackref17_Step #[v40, t1, v41] h39 fun v42 h43 =>
 popO (SemP PG (Instr.extract v42 0)) fun v44 =>
 popO (SemP PG (Instr.extract v42 1)) fun v45 =>
 ∀ r46, h43 r46 = none → bindH (PH.set h43 r46 (.cells (zcells PG T_api_Daemon) T_api_Daemon)) fun h47 =>
 SemH PG (storeS T_api_Daemon (Value.pointer (some ⟨r46, 0, none⟩)) v44) h47 fun v48 h49 =>
 popO (SemE PG h49 (Instr.loadAt T_api_Daemon (Value.pointer (some ⟨r36, 0, none⟩)))) fun v50 =>
 popO (SemE PG h49 (Instr.loadAt T_api_Daemon (Value.pointer (some ⟨r46, 0, none⟩)))) fun v51 =>
 CallsH PG id_carrackref17_SameState #[v50, v51] h49 fun v52 h53 =>
 (gopV (yV v52) true (fun k56 => k56 v35 h53) h53 fun v54 h55 =>
 gopV (yV v52) true (fun k59 => k59 v45 h55) h55 fun v57 h58 =>
 gopV (yV v52) true (fun k62 => popO (SemE PG h58 (binS BinOp.eql T_int (.tmp 40) (.tmp 41) v54 v57)) fun v63 => k62 v63 h58) h58 fun v60 h61 =>
 popO (pickV v52 v60 (Value.bool false)) fun v64 =>
 gopV (yV v64) true (fun k67 => popO (SemE PG h61 (Instr.loadAt T_api_Daemon (Value.pointer (some ⟨r1, 0, none⟩)))) fun v68 => k67 v68 h61) h61 fun v65 h66 =>
 gopV (yV v64) true (fun k71 => k71 t1 h66) h66 fun v69 h70 =>
 gopV (yV v64) true (fun k74 => popO (SemE PG h70 (Instr.loadAt T_api_Daemon (Value.pointer (some ⟨r1, 0, none⟩)))) fun v75 => k74 v75 h70) h70 fun v72 h73 =>
 gopV (yV v64) true (fun k78 => k78 t1 h73) h73 fun v76 h77 =>
 gopV (yV v64) true (fun k81 => CallsH PG id_record_Check #[v65, v69] h77 fun v82 h83 => k81 v82 h83) h77 fun v79 h80 =>
 ((yV v64 == some true) = true → SemE PG h80 (Instr.loadAt T_api_Daemon (Value.pointer (some ⟨r1, 0, none⟩))) = some v72) ∧ (gopV (yV v64) true (fun k86 => CallsH PG id_carrackref17_Check #[v72, v76] h80 fun v87 h88 => k86 v87 h88) h80 fun v84 h85 =>
 (gopV (yV v64) true (fun k91 => popO (SemE PG h85 (binS BinOp.eql T_int (.tmp 47) (.tmp 50) v79 v84)) fun v92 => k91 v92 h85) h85 fun v89 h90 =>
 popO (pickV v64 v89 (Value.bool false)) fun v93 =>
 R v93 h90)))))
def carracklaw17_RecordSteps.ann : Ann := { b := fun i => match i with | 7 => #[0, 0, 3, 7, 15, 15, 63, 127, 255, 511, 511, 2047, 511, 511, 16383, 32767, 65535, 131071] | _ => #[], ord := fun i => match i with | 7 => [0, 1, 2, 3, 4, 5, 6, 7, 8, 9, 10, 12, 13, 11, 14, 15, 16, 17] | _ => [], keep := fun i => match i with  | _ => [], n := 53 }
theorem carracklaw17_RecordSteps.eq (t0 : Value) (t1 : Value) (t2 : Value) (h0 : PH) (R : Value → PH → Prop) : codeF PG carracklaw17_RecordSteps.ann 200 (bodyOf Tryz.f3) (endH PG Tryz.f3 R) (fun t => (#[t0, t1, t2] : Array Value).getD t undef) h0 = carracklaw17_RecordSteps t0 t1 t2 h0 R := by kernel_rfl
theorem carracklaw17_RecordSteps.call {t0 : Value} {t1 : Value} {t2 : Value} {h0 : PH} {R : Value → PH → Prop} (H : carracklaw17_RecordSteps t0 t1 t2 h0 R) : CallsH PG id_carracklaw17_RecordSteps #[t0, t1, t2] h0 R :=
  callsF_by carracklaw17_RecordSteps.ann 200 mix Tryz.func3 (by kernel_rfl) (by kernel_rfl) (by kernel_rfl) (by kernel_rfl) (by simp [Tryz.ntmps3]) (carracklaw17_RecordSteps.eq t0 t1 t2 h0 R) H

def carracklaw17_awake (h0 : PH) (R : Value → PH → Prop) : Prop :=
 popO (SemP PG (Instr.build T_api_Packet #[(1, (Value.int IntKind.u64 1)), (2, (Value.int IntKind.u64 9))])) fun v1 =>
 popO (SemP PG (Instr.build T_api_Note #[(0, (Value.int IntKind.i64 1)), (1, v1)])) fun v2 =>
 ∀ r3, h0 r3 = none → bindH (PH.set h0 r3 (.cells (zcells PG T_api_Note) T_api_Note)) fun h4 =>
 SemH PG (storeS T_api_Note (Value.pointer (some ⟨r3, 0, none⟩)) v2) h4 fun v5 h6 =>
 popO (SemP PG (Instr.build T_api_Record #[(0, (Value.int IntKind.i64 1))])) fun v7 =>
 CallsH PG id_record_Bytes #[v7] h6 fun v8 h9 =>
 popO (SemP PG (Instr.extract v8 0)) fun v10 =>
 popO (SemP PG (Instr.extract v8 1)) fun v11 =>
 popO (SemP PG (Instr.build T_api_Place #[(0, (Value.int IntKind.u64 5)), (1, (Value.int IntKind.i64 1))])) fun v12 =>
 popO (SemE PG h9 (Instr.loadAt T_api_Note (Value.pointer (some ⟨r3, 0, none⟩)))) fun v13 =>
 popO (SemA PG (Instr.buildSlice T_sl_api_Note 1 #[(0, v13)])) fun x15 => ∀ r14, h9 r14 = none → popO (SemP PG (x15.2 r14)) fun v16 => bindH (PH.set h9 r14 x15.1) fun h17 =>
 popO (SemP PG (Instr.build T_api_Record #[(0, (Value.int IntKind.i64 2)), (3, v12), (4, v16)])) fun v18 =>
 CallsH PG id_record_Bytes #[v18] h17 fun v19 h20 =>
 popO (SemP PG (Instr.extract v19 0)) fun v21 =>
 popO (SemP PG (Instr.extract v19 1)) fun v22 =>
 popO (SemA PG (Instr.buildSlice T_sl_string 2 #[(0, v10), (1, v21)])) fun x24 => ∀ r23, h20 r23 = none → popO (SemP PG (x24.2 r23)) fun v25 => bindH (PH.set h20 r23 x24.1) fun h26 =>
 CallsH PG id_record_Replay #[(Value.int IntKind.i64 2), v25] h26 fun v27 h28 =>
 popO (SemP PG (Instr.extract v27 0)) fun v29 =>
 popO (SemP PG (Instr.extract v27 1)) fun v30 =>
 ∀ r31, h28 r31 = none → bindH (PH.set h28 r31 (.cells (zcells PG T_api_Daemon) T_api_Daemon)) fun h32 =>
 SemH PG (storeS T_api_Daemon (Value.pointer (some ⟨r31, 0, none⟩)) v29) h32 fun v33 h34 =>
 popO (SemE PG h34 (binS BinOp.eql T_api_Errno (.tmp 30) (.const (Value.int IntKind.i64 0)) v11 (Value.int IntKind.i64 0))) fun v35 =>
 gopV (yV v35) true (fun k38 => k38 v22 h34) h34 fun v36 h37 =>
 gopV (yV v35) true (fun k41 => popO (SemE PG h37 (binS BinOp.eql T_api_Errno (.tmp 33) (.const (Value.int IntKind.i64 0)) v36 (Value.int IntKind.i64 0))) fun v42 => k41 v42 h37) h37 fun v39 h40 =>
 popO (pickV v35 v39 (Value.bool false)) fun v43 =>
 gopV (yV v43) true (fun k46 => k46 v30 h40) h40 fun v44 h45 =>
 gopV (yV v43) true (fun k49 => popO (SemE PG h45 (binS BinOp.eql T_api_Errno (.tmp 37) (.const (Value.int IntKind.i64 0)) v44 (Value.int IntKind.i64 0))) fun v50 => k49 v50 h45) h45 fun v47 h48 =>
 popO (pickV v43 v47 (Value.bool false)) fun v51 =>
 gopV (yV v51) true (fun k54 => popO (SemP PG (Instr.fieldAt T_api_Daemon (Value.pointer (some ⟨r31, 0, none⟩)) 1)) fun v55 => k54 v55 h48) h48 fun v52 h53 =>
 gopV (yV v51) true (fun k58 => popO (SemE PG h53 (Instr.loadAt T_sl_api_Item v52)) fun v59 => k58 v59 h53) h53 fun v56 h57 =>
 gopV (yV v51) true (fun k62 => popO (SemP PG (Builtin.len_ #[T_sl_api_Item] T_int #[v56])) fun v63 => k62 v63 h57) h57 fun v60 h61 =>
 gopV (yV v51) true (fun k66 => popO (SemE PG h61 (binS BinOp.eql T_int (.tmp 43) (.const (Value.int IntKind.i64 1)) v60 (Value.int IntKind.i64 1))) fun v67 => k66 v67 h61) h61 fun v64 h65 =>
 popO (pickV v51 v64 (Value.bool false)) fun v68 =>
 gopV (yV v68) true (fun k71 => popO (SemP PG (Instr.fieldAt T_api_Daemon (Value.pointer (some ⟨r31, 0, none⟩)) 1)) fun v72 => k71 v72 h65) h65 fun v69 h70 =>
 gopV (yV v68) true (fun k75 => popO (SemE PG h70 (Instr.loadAt T_sl_api_Item v69)) fun v76 => k75 v76 h70) h70 fun v73 h74 =>
 gopV (yV v68) true (fun k79 => popO (SemP PG (Instr.indexAt T_sl_api_Item v73 (Value.int IntKind.i64 0))) fun v80 => k79 v80 h74) h74 fun v77 h78 =>
 gopV (yV v68) true (fun k83 => popO (SemE PG h78 (Instr.loadAt T_api_Item v77)) fun v84 => k83 v84 h78) h78 fun v81 h82 =>
 gopV (yV v68) true (fun k87 => popO (SemP PG (Instr.fieldAt T_api_Note (Value.pointer (some ⟨r3, 0, none⟩)) 1)) fun v88 => k87 v88 h82) h82 fun v85 h86 =>
 gopV (yV v68) true (fun k91 => popO (SemE PG h86 (Instr.loadAt T_api_Packet v85)) fun v92 => k91 v92 h86) h86 fun v89 h90 =>
 gopV (yV v68) true (fun k95 => popO (SemP PG (Instr.build T_api_Item #[(0, v89), (1, (Value.int IntKind.i64 1))])) fun v96 => k95 v96 h90) h90 fun v93 h94 =>
 gopV (yV v68) true (fun k99 => popO (SemE PG h94 (binS BinOp.eql T_api_Item (.tmp 50) (.tmp 53) v81 v93)) fun v100 => k99 v100 h94) h94 fun v97 h98 =>
 popO (pickV v68 v97 (Value.bool false)) fun v101 =>
 gopV (yV v101) true (fun k104 => popO (SemP PG (Instr.fieldAt T_api_Daemon (Value.pointer (some ⟨r31, 0, none⟩)) 0)) fun v105 => k104 v105 h98) h98 fun v102 h103 =>
 gopV (yV v101) true (fun k108 => popO (SemP PG (Instr.indexAt T_2_api_Place v102 (Value.int IntKind.i64 0))) fun v109 => k108 v109 h103) h103 fun v106 h107 =>
 gopV (yV v101) true (fun k112 => popO (SemE PG h107 (Instr.loadAt T_api_Place v106)) fun v113 => k112 v113 h107) h107 fun v110 h111 =>
 gopV (yV v101) true (fun k116 => popO (SemP PG (Instr.build T_api_Place #[(0, (Value.int IntKind.u64 5)), (1, (Value.int IntKind.i64 1))])) fun v117 => k116 v117 h111) h111 fun v114 h115 =>
 gopV (yV v101) true (fun k120 => popO (SemE PG h115 (binS BinOp.eql T_api_Place (.tmp 59) (.tmp 60) v110 v114)) fun v121 => k120 v121 h115) h115 fun v118 h119 =>
 popO (pickV v101 v118 (Value.bool false)) fun v122 =>
 R v122 h119
def carracklaw17_awake.ann : Ann := { b := fun i => match i with | 5 => #[0, 1, 3, 7, 15, 31, 63, 127, 255, 511, 1023, 2047, 4095, 8191, 16383, 32767, 65535, 131071, 262143, 524287, 1048575, 131071, 2228223, 6422527, 16777215, 33554431, 67108863, 134217727, 268435455, 536870911, 134217727, 2147483647, 4294967295, 8589934591] | _ => #[], ord := fun i => match i with | 5 => [0, 1, 2, 3, 4, 5, 6, 7, 8, 9, 10, 11, 12, 13, 14, 15, 16, 17, 18, 19, 20, 21, 22, 23, 24, 25, 26, 27, 28, 29, 30, 31, 32, 33] | _ => [], keep := fun i => match i with  | _ => [], n := 63 }
theorem carracklaw17_awake.eq (h0 : PH) (R : Value → PH → Prop) : codeF PG carracklaw17_awake.ann 200 (bodyOf Tryz.f4) (endH PG Tryz.f4 R) (fun t => (#[] : Array Value).getD t undef) h0 = carracklaw17_awake  h0 R := by kernel_rfl
theorem carracklaw17_awake.call {h0 : PH} {R : Value → PH → Prop} (H : carracklaw17_awake  h0 R) : CallsH PG id_carracklaw17_awake #[] h0 R :=
  callsF_by carracklaw17_awake.ann 200 mix Tryz.func4 (by kernel_rfl) (by kernel_rfl) (by kernel_rfl) (by kernel_rfl) (by simp [Tryz.ntmps4]) (carracklaw17_awake.eq  h0 R) H

def record_Bytes_b20 (R : Value → PH → Prop) (n19 : List Value → PH → Prop) (t1 : Value) (t4 : Value) (t18 : Value) (t19 : Value) (h0 : PH) : Prop :=
 popO (SemP PG (binOp BinOp.lss T_int t19 (Value.int IntKind.i64 2))) fun v21 =>
 condV v21
 (popO (SemP PG (Instr.index T_2_api_Place t18 t19)) fun v22 =>
 ∀ r23, h0 r23 = none → bindH (PH.set h0 r23 (.cells (zcells PG T_api_Place) T_api_Place)) fun h24 =>
 SemH PG (storeS T_api_Place (Value.pointer (some ⟨r23, 0, none⟩)) v22) h24 fun v25 h26 =>
 popO (SemE PG h26 (Instr.loadAt T_api_Place (Value.pointer (some ⟨r23, 0, none⟩)))) fun v27 =>
 CallsH PG id_note_PutPlace #[t4, v27] h26 fun v28 h29 =>
 popO (SemP PG (binOp BinOp.add T_int t19 (Value.int IntKind.i64 1))) fun v30 =>
 n19 [t1, t4, t18, v30] h29)
 (popO (SemP PG (Instr.fieldAt T_api_Record t1 1)) fun v31 =>
 popO (SemP PG (Instr.fieldAt T_api_Daemon v31 1)) fun v32 =>
 popO (SemE PG h0 (Instr.loadAt T_sl_api_Item v32)) fun v33 =>
 CallsH PG id_note_PutItems #[t4, v33] h0 fun v34 h35 =>
 CallsH PG id_wire_Writer_Bytes #[t4] h35 fun v36 h37 =>
 popO (SemP PG (Instr.extract v36 0)) fun v38 =>
 popO (SemP PG (Instr.extract v36 1)) fun v39 =>
 R (Value.tuple #[v38, v39]) h37)
def record_Bytes (t0 : Value) (h0 : PH) (R : Value → PH → Prop) : Prop :=
 ∀ r1, h0 r1 = none → bindH (PH.set h0 r1 (.cells (Value.cells t0) T_api_Record)) fun h2 =>
 popO (SemE PG h2 (Instr.loadAt T_api_Record (Value.pointer (some ⟨r1, 0, none⟩)))) fun v3 =>
 CallsH PG id_record_plain #[v3] h2 fun v4 h5 =>
 popO (SemP PG (Op.unary UnOp.not v4)) fun v6 =>
 condV v6
 (R (Value.tuple #[(Value.string { data := #[] }), (Value.int IntKind.i64 1)]) h5)
 (∀ r7, h5 r7 = none → bindH (PH.set h5 r7 (.cells (zcells PG T_wire_Writer) T_wire_Writer)) fun h8 =>
 popO (SemP PG (Instr.fieldAt T_api_Record (Value.pointer (some ⟨r1, 0, none⟩)) 0)) fun v9 =>
 popO (SemE PG h8 (Instr.loadAt T_int v9)) fun v10 =>
 CallsH PG id_wire_Writer_Byte #[(Value.pointer (some ⟨r7, 0, none⟩)), v10] h8 fun v11 h12 =>
 popO (SemP PG (Instr.fieldAt T_api_Record (Value.pointer (some ⟨r1, 0, none⟩)) 0)) fun v13 =>
 popO (SemE PG h12 (Instr.loadAt T_int v13)) fun v14 =>
 popO (SemE PG h12 (binS BinOp.eql T_int (.tmp 14) (.const (Value.int IntKind.i64 1)) v14 (Value.int IntKind.i64 1))) fun v15 =>
 condV v15
 (popO (SemP PG (Instr.fieldAt T_api_Record (Value.pointer (some ⟨r1, 0, none⟩)) 1)) fun v16 =>
 popO (SemP PG (Instr.fieldAt T_api_Daemon v16 0)) fun v17 =>
 popO (SemE PG h12 (Instr.loadAt T_2_api_Place v17)) fun v18 =>
 LoopL [1, 4, 18, 19] (fun n19 ρ h => record_Bytes_b20 R n19 (ρ 1) (ρ 4) (ρ 18) (ρ 19) h) [(Value.pointer (some ⟨r1, 0, none⟩)), (Value.pointer (some ⟨r7, 0, none⟩)), v18, (Value.int IntKind.i64 0)] h12)
 (popO (SemP PG (Instr.fieldAt T_api_Record (Value.pointer (some ⟨r1, 0, none⟩)) 2)) fun v40 =>
 popO (SemE PG h12 (Instr.loadAt T_int v40)) fun v41 =>
 CallsH PG id_wire_Writer_Byte #[(Value.pointer (some ⟨r7, 0, none⟩)), v41] h12 fun v42 h43 =>
 popO (SemP PG (Instr.fieldAt T_api_Record (Value.pointer (some ⟨r1, 0, none⟩)) 3)) fun v44 =>
 popO (SemE PG h43 (Instr.loadAt T_api_Place v44)) fun v45 =>
 CallsH PG id_note_PutPlace #[(Value.pointer (some ⟨r7, 0, none⟩)), v45] h43 fun v46 h47 =>
 popO (SemP PG (Instr.fieldAt T_api_Record (Value.pointer (some ⟨r1, 0, none⟩)) 4)) fun v48 =>
 popO (SemE PG h47 (Instr.loadAt T_sl_api_Note v48)) fun v49 =>
 CallsH PG id_note_PutNotes #[(Value.pointer (some ⟨r7, 0, none⟩)), v49] h47 fun v50 h51 =>
 CallsH PG id_wire_Writer_Bytes #[(Value.pointer (some ⟨r7, 0, none⟩))] h51 fun v52 h53 =>
 popO (SemP PG (Instr.extract v52 0)) fun v54 =>
 popO (SemP PG (Instr.extract v52 1)) fun v55 =>
 R (Value.tuple #[v54, v55]) h53))
def record_Bytes.ann : Ann := { b := fun i => match i with  | _ => #[], ord := fun i => match i with  | _ => [], keep := fun i => match i with | 7 => [1, 4, 18, 19] | _ => [], n := 44 }
theorem record_Bytes.eq (t0 : Value) (h0 : PH) (R : Value → PH → Prop) : codeF PG record_Bytes.ann 200 (bodyOf Tryz.f11) (endH PG Tryz.f11 R) (fun t => (#[t0] : Array Value).getD t undef) h0 = record_Bytes t0 h0 R := by kernel_rfl
theorem record_Bytes.call {t0 : Value} {h0 : PH} {R : Value → PH → Prop} (H : record_Bytes t0 h0 R) : CallsH PG id_record_Bytes #[t0] h0 R :=
  callsF_by record_Bytes.ann 200 mix Tryz.func11 (by kernel_rfl) (by kernel_rfl) (by kernel_rfl) (by kernel_rfl) (by simp [Tryz.ntmps11]) (record_Bytes.eq t0 h0 R) H

def record_plain (t0 : Value) (h0 : PH) (R : Value → PH → Prop) : Prop :=
 ∀ r1, h0 r1 = none → bindH (PH.set h0 r1 (.cells (Value.cells t0) T_api_Record)) fun h2 =>
 popO (SemP PG (Instr.fieldAt T_api_Record (Value.pointer (some ⟨r1, 0, none⟩)) 0)) fun v3 =>
 popO (SemE PG h2 (Instr.loadAt T_int v3)) fun v4 =>
 popO (SemE PG h2 (binS BinOp.eql T_int (.tmp 4) (.const (Value.int IntKind.i64 1)) v4 (Value.int IntKind.i64 1))) fun v5 =>
 condV v5
 (popO (SemP PG (Instr.fieldAt T_api_Record (Value.pointer (some ⟨r1, 0, none⟩)) 2)) fun v6 =>
 popO (SemE PG h2 (Instr.loadAt T_int v6)) fun v7 =>
 popO (SemE PG h2 (binS BinOp.eql T_int (.tmp 8) (.const (Value.int IntKind.i64 0)) v7 (Value.int IntKind.i64 0))) fun v8 =>
 gopV (yV v8) true (fun k11 => popO (SemP PG (Instr.fieldAt T_api_Record (Value.pointer (some ⟨r1, 0, none⟩)) 3)) fun v12 => k11 v12 h2) h2 fun v9 h10 =>
 gopV (yV v8) true (fun k15 => popO (SemE PG h10 (Instr.loadAt T_api_Place v9)) fun v16 => k15 v16 h10) h10 fun v13 h14 =>
 gopV (yV v8) true (fun k19 => popO (SemP PG (Instr.build T_api_Place #[])) fun v20 => k19 v20 h14) h14 fun v17 h18 =>
 gopV (yV v8) true (fun k23 => popO (SemE PG h18 (binS BinOp.eql T_api_Place (.tmp 12) (.tmp 13) v13 v17)) fun v24 => k23 v24 h18) h18 fun v21 h22 =>
 popO (pickV v8 v21 (Value.bool false)) fun v25 =>
 gopV (yV v25) true (fun k28 => popO (SemP PG (Instr.fieldAt T_api_Record (Value.pointer (some ⟨r1, 0, none⟩)) 4)) fun v29 => k28 v29 h22) h22 fun v26 h27 =>
 gopV (yV v25) true (fun k32 => popO (SemE PG h27 (Instr.loadAt T_sl_api_Note v26)) fun v33 => k32 v33 h27) h27 fun v30 h31 =>
 gopV (yV v25) true (fun k36 => popO (SemP PG (Builtin.len_ #[T_sl_api_Note] T_int #[v30])) fun v37 => k36 v37 h31) h31 fun v34 h35 =>
 gopV (yV v25) true (fun k40 => popO (SemE PG h35 (binS BinOp.eql T_int (.tmp 19) (.const (Value.int IntKind.i64 0)) v34 (Value.int IntKind.i64 0))) fun v41 => k40 v41 h35) h35 fun v38 h39 =>
 popO (pickV v25 v38 (Value.bool false)) fun v42 =>
 gopV (yV v42) true (fun k45 => popO (SemP PG (Instr.fieldAt T_api_Record (Value.pointer (some ⟨r1, 0, none⟩)) 1)) fun v46 => k45 v46 h39) h39 fun v43 h44 =>
 gopV (yV v42) true (fun k49 => popO (SemP PG (Instr.fieldAt T_api_Daemon v43 1)) fun v50 => k49 v50 h44) h44 fun v47 h48 =>
 gopV (yV v42) true (fun k53 => popO (SemE PG h48 (Instr.loadAt T_sl_api_Item v47)) fun v54 => k53 v54 h48) h48 fun v51 h52 =>
 gopV (yV v42) true (fun k57 => popO (SemP PG (Builtin.len_ #[T_sl_api_Item] T_int #[v51])) fun v58 => k57 v58 h52) h52 fun v55 h56 =>
 gopV (yV v42) true (fun k61 => popO (SemP PG (binOp BinOp.leq T_int v55 (Value.int IntKind.i64 40))) fun v62 => k61 v62 h56) h56 fun v59 h60 =>
 popO (pickV v42 v59 (Value.bool false)) fun v63 =>
 R v63 h60)
 (popO (SemE PG h2 (binS BinOp.eql T_int (.tmp 4) (.const (Value.int IntKind.i64 2)) v4 (Value.int IntKind.i64 2))) fun v64 =>
 condV v64
 (popO (SemP PG (Instr.fieldAt T_api_Record (Value.pointer (some ⟨r1, 0, none⟩)) 1)) fun v65 =>
 popO (SemP PG (Instr.fieldAt T_api_Daemon v65 0)) fun v66 =>
 popO (SemE PG h2 (Instr.loadAt T_2_api_Place v66)) fun v67 =>
 popO (SemP PG (Instr.build T_2_api_Place #[])) fun v68 =>
 popO (SemE PG h2 (binS BinOp.eql T_2_api_Place (.tmp 33) (.tmp 34) v67 v68)) fun v69 =>
 gopV (yV v69) true (fun k72 => popO (SemP PG (Instr.fieldAt T_api_Record (Value.pointer (some ⟨r1, 0, none⟩)) 1)) fun v73 => k72 v73 h2) h2 fun v70 h71 =>
 gopV (yV v69) true (fun k76 => popO (SemP PG (Instr.fieldAt T_api_Daemon v70 1)) fun v77 => k76 v77 h71) h71 fun v74 h75 =>
 gopV (yV v69) true (fun k80 => popO (SemE PG h75 (Instr.loadAt T_sl_api_Item v74)) fun v81 => k80 v81 h75) h75 fun v78 h79 =>
 gopV (yV v69) true (fun k84 => popO (SemP PG (Builtin.len_ #[T_sl_api_Item] T_int #[v78])) fun v85 => k84 v85 h79) h79 fun v82 h83 =>
 gopV (yV v69) true (fun k88 => popO (SemE PG h83 (binS BinOp.eql T_int (.tmp 40) (.const (Value.int IntKind.i64 0)) v82 (Value.int IntKind.i64 0))) fun v89 => k88 v89 h83) h83 fun v86 h87 =>
 popO (pickV v69 v86 (Value.bool false)) fun v90 =>
 gopV (yV v90) true (fun k93 => popO (SemP PG (Instr.fieldAt T_api_Record (Value.pointer (some ⟨r1, 0, none⟩)) 2)) fun v94 => k93 v94 h87) h87 fun v91 h92 =>
 gopV (yV v90) true (fun k97 => popO (SemE PG h92 (Instr.loadAt T_int v91)) fun v98 => k97 v98 h92) h92 fun v95 h96 =>
 gopV (yV v90) true (fun k101 => popO (SemE PG h96 (binS BinOp.eql T_int (.tmp 45) (.const (Value.int IntKind.i64 0)) v95 (Value.int IntKind.i64 0))) fun v102 => k101 v102 h96) h96 fun v99 h100 =>
 gopV (yV v90) true (fun k105 => k105 v99 h100) h100 fun v103 h104 =>
 gopV (yV v103) false (fun k108 => popO (SemP PG (Instr.fieldAt T_api_Record (Value.pointer (some ⟨r1, 0, none⟩)) 2)) fun v109 => k108 v109 h104) h104 fun v106 h107 =>
 gopV (yV v103) false (fun k112 => popO (SemE PG h107 (Instr.loadAt T_int v106)) fun v113 => k112 v113 h107) h107 fun v110 h111 =>
 gopV (yV v103) false (fun k116 => popO (SemE PG h111 (binS BinOp.eql T_int (.tmp 49) (.const (Value.int IntKind.i64 1)) v110 (Value.int IntKind.i64 1))) fun v117 => k116 v117 h111) h111 fun v114 h115 =>
 gopV (yV v90) true (fun k120 => popO (pickV v103 (Value.bool true) v114) fun v121 => k120 v121 h115) h115 fun v118 h119 =>
 popO (pickV v90 v118 (Value.bool false)) fun v122 =>
 gopV (yV v122) true (fun k125 => popO (SemP PG (Instr.fieldAt T_api_Record (Value.pointer (some ⟨r1, 0, none⟩)) 4)) fun v126 => k125 v126 h119) h119 fun v123 h124 =>
 gopV (yV v122) true (fun k129 => popO (SemE PG h124 (Instr.loadAt T_sl_api_Note v123)) fun v130 => k129 v130 h124) h124 fun v127 h128 =>
 gopV (yV v122) true (fun k133 => popO (SemP PG (Builtin.len_ #[T_sl_api_Note] T_int #[v127])) fun v134 => k133 v134 h128) h128 fun v131 h132 =>
 gopV (yV v122) true (fun k137 => popO (SemP PG (binOp BinOp.leq T_int v131 (Value.int IntKind.i64 16))) fun v138 => k137 v138 h132) h132 fun v135 h136 =>
 popO (pickV v122 v135 (Value.bool false)) fun v139 =>
 R v139 h136)
 (R (Value.bool false) h2))
def record_plain.ann : Ann := { b := fun i => match i with  | _ => #[], ord := fun i => match i with  | _ => [], keep := fun i => match i with  | _ => [], n := 59 }
theorem record_plain.eq (t0 : Value) (h0 : PH) (R : Value → PH → Prop) : codeF PG record_plain.ann 200 (bodyOf Tryz.f24) (endH PG Tryz.f24 R) (fun t => (#[t0] : Array Value).getD t undef) h0 = record_plain t0 h0 R := by kernel_rfl
theorem record_plain.call {t0 : Value} {h0 : PH} {R : Value → PH → Prop} (H : record_plain t0 h0 R) : CallsH PG id_record_plain #[t0] h0 R :=
  callsF_by record_plain.ann 200 mix Tryz.func24 (by kernel_rfl) (by kernel_rfl) (by kernel_rfl) (by kernel_rfl) (by simp [Tryz.ntmps24]) (record_plain.eq t0 h0 R) H

def wire_Writer_Byte (t0 : Value) (t1 : Value) (h0 : PH) (R : Value → PH → Prop) : Prop :=
 popO (SemP PG (binOp BinOp.lss T_int t1 (Value.int IntKind.i64 0))) fun v1 =>
 gopV (yV v1) false (fun k4 => k4 t1 h0) h0 fun v2 h3 =>
 gopV (yV v1) false (fun k7 => popO (SemP PG (binOp BinOp.gtr T_int v2 (Value.int IntKind.i64 255))) fun v8 => k7 v8 h3) h3 fun v5 h6 =>
 popO (pickV v1 (Value.bool true) v5) fun v9 =>
 condV v9
 (popO (SemP PG (nilS t0)) fun v10 =>
 popO (SemP PG (Instr.fieldAt T_wire_Writer v10 0)) fun v11 =>
 CallsH PG id_wire_memory_Fail #[v11, (Value.int IntKind.i64 1)] h6 fun v12 h13 =>
 R (Value.tuple #[]) h13)
 (popO (SemP PG (convert T_int T_uint64 t1)) fun v14 =>
 CallsH PG id_wire_Writer_put #[t0, v14, (Value.int IntKind.i64 1)] h6 fun v15 h16 =>
 R (Value.tuple #[]) h16)
def wire_Writer_Byte.ann : Ann := { b := fun i => match i with  | _ => #[], ord := fun i => match i with  | _ => [], keep := fun i => match i with  | _ => [], n := 18 }
theorem wire_Writer_Byte.eq (t0 : Value) (t1 : Value) (h0 : PH) (R : Value → PH → Prop) : codeF PG wire_Writer_Byte.ann 200 (bodyOf Tryz.f25) (endH PG Tryz.f25 R) (fun t => (#[t0, t1] : Array Value).getD t undef) h0 = wire_Writer_Byte t0 t1 h0 R := by kernel_rfl
theorem wire_Writer_Byte.call {t0 : Value} {t1 : Value} {h0 : PH} {R : Value → PH → Prop} (H : wire_Writer_Byte t0 t1 h0 R) : CallsH PG id_wire_Writer_Byte #[t0, t1] h0 R :=
  callsF_by wire_Writer_Byte.ann 200 mix Tryz.func25 (by kernel_rfl) (by kernel_rfl) (by kernel_rfl) (by kernel_rfl) (by simp [Tryz.ntmps25]) (wire_Writer_Byte.eq t0 t1 h0 R) H

def wire_memory_Fail (t0 : Value) (t1 : Value) (h0 : PH) (R : Value → PH → Prop) : Prop :=
 popO (SemP PG (nilS t0)) fun v1 =>
 popO (SemP PG (Instr.fieldAt T_wire_memory v1 0)) fun v2 =>
 popO (SemE PG h0 (Instr.loadAt T_api_Errno v2)) fun v3 =>
 popO (SemE PG h0 (binS BinOp.eql T_api_Errno (.tmp 7) (.const (Value.int IntKind.i64 0)) v3 (Value.int IntKind.i64 0))) fun v4 =>
 condV v4
 (popO (SemP PG (nilS t0)) fun v5 =>
 popO (SemP PG (Instr.fieldAt T_wire_memory v5 0)) fun v6 =>
 SemH PG (storeS T_api_Errno v6 t1) h0 fun v7 h8 =>
 R (Value.tuple #[]) h8)
 (R (Value.tuple #[]) h0)
def wire_memory_Fail.ann : Ann := { b := fun i => match i with  | _ => #[], ord := fun i => match i with  | _ => [], keep := fun i => match i with  | _ => [], n := 13 }
theorem wire_memory_Fail.eq (t0 : Value) (t1 : Value) (h0 : PH) (R : Value → PH → Prop) : codeF PG wire_memory_Fail.ann 200 (bodyOf Tryz.f52) (endH PG Tryz.f52 R) (fun t => (#[t0, t1] : Array Value).getD t undef) h0 = wire_memory_Fail t0 t1 h0 R := by kernel_rfl
theorem wire_memory_Fail.call {t0 : Value} {t1 : Value} {h0 : PH} {R : Value → PH → Prop} (H : wire_memory_Fail t0 t1 h0 R) : CallsH PG id_wire_memory_Fail #[t0, t1] h0 R :=
  callsF_by wire_memory_Fail.ann 200 mix Tryz.func52 (by kernel_rfl) (by kernel_rfl) (by kernel_rfl) (by kernel_rfl) (by simp [Tryz.ntmps52]) (wire_memory_Fail.eq t0 t1 h0 R) H

def wire_Writer_put_b3 (R : Value → PH → Prop) (n2 : List Value → PH → Prop) (t0 : Value) (t1 : Value) (t6 : Value) (h0 : PH) : Prop :=
 popO (SemP PG (binOp BinOp.geq T_int t6 (Value.int IntKind.i64 0))) fun v4 =>
 condV v4
 (popO (SemP PG (nilS t0)) fun v5 =>
 popO (SemP PG (Instr.fieldAt T_wire_Writer v5 1)) fun v6 =>
 popO (SemP PG (binOp BinOp.mul T_int (Value.int IntKind.i64 8) t6)) fun v7 =>
 popO (SemP PG (binOp BinOp.shr T_uint64 t1 v7)) fun v8 =>
 popO (SemP PG (convert T_uint64 T_uint8 v8)) fun v9 =>
 CallsH PG id_strings_Builder_WriteByte #[v6, v9] h0 fun v10 h11 =>
 (popO (SemP PG (binOp BinOp.sub T_int t6 (Value.int IntKind.i64 1))) fun v12 =>
 n2 [t0, t1, v12] h11))
 (R (Value.tuple #[]) h0)
def wire_Writer_put (t0 : Value) (t1 : Value) (t2 : Value) (h0 : PH) (R : Value → PH → Prop) : Prop :=
 popO (SemP PG (binOp BinOp.sub T_int t2 (Value.int IntKind.i64 1))) fun v1 =>
 LoopL [0, 1, 6] (fun n2 ρ h => wire_Writer_put_b3 R n2 (ρ 0) (ρ 1) (ρ 6) h) [t0, t1, v1] h0
def wire_Writer_put.ann : Ann := { b := fun i => match i with | 3 => #[0, 1, 3, 0, 0, 16, 56, 120, 255] | _ => #[], ord := fun i => match i with | 3 => [0, 1, 2, 3, 4, 5, 6, 7, 8] | _ => [], keep := fun i => match i with | 1 => [0, 1, 6] | _ => [], n := 22 }
theorem wire_Writer_put.eq (t0 : Value) (t1 : Value) (t2 : Value) (h0 : PH) (R : Value → PH → Prop) : codeF PG wire_Writer_put.ann 200 (bodyOf Tryz.f53) (endH PG Tryz.f53 R) (fun t => (#[t0, t1, t2] : Array Value).getD t undef) h0 = wire_Writer_put t0 t1 t2 h0 R := by kernel_rfl
theorem wire_Writer_put.call {t0 : Value} {t1 : Value} {t2 : Value} {h0 : PH} {R : Value → PH → Prop} (H : wire_Writer_put t0 t1 t2 h0 R) : CallsH PG id_wire_Writer_put #[t0, t1, t2] h0 R :=
  callsF_by wire_Writer_put.ann 200 mix Tryz.func53 (by kernel_rfl) (by kernel_rfl) (by kernel_rfl) (by kernel_rfl) (by simp [Tryz.ntmps53]) (wire_Writer_put.eq t0 t1 t2 h0 R) H

def strings_Builder_WriteByte (t0 : Value) (t1 : Value) (h0 : PH) (R : Value → PH → Prop) : Prop :=
 CallsH PG id_strings_Builder_copyCheck #[t0] h0 fun v1 h2 =>
 popO (SemP PG (nilS t0)) fun v3 =>
 popO (SemP PG (Instr.fieldAt T_strings_Builder v3 1)) fun v4 =>
 popO (SemE PG h2 (Instr.loadAt T_sl_uint8 v4)) fun v5 =>
 popO (SemA PG (Instr.buildSlice T_sl_uint8 1 #[(0, t1)])) fun x7 => ∀ r6, h2 r6 = none → popO (SemP PG (x7.2 r6)) fun v8 => bindH (PH.set h2 r6 x7.1) fun h9 =>
 SemH PG (Builtin.append_ #[T_sl_uint8, T_sl_uint8] T_sl_uint8 #[v5, v8]) h9 fun v10 h11 =>
 popO (SemP PG (nilS t0)) fun v12 =>
 popO (SemP PG (Instr.fieldAt T_strings_Builder v12 1)) fun v13 =>
 SemH PG (storeS T_sl_uint8 v13 v10) h11 fun v14 h15 =>
 R Value.nilIface h15
def strings_Builder_WriteByte.ann : Ann := { b := fun i => match i with  | _ => #[], ord := fun i => match i with  | _ => [], keep := fun i => match i with  | _ => [], n := 17 }
theorem strings_Builder_WriteByte.eq (t0 : Value) (t1 : Value) (h0 : PH) (R : Value → PH → Prop) : codeF PG strings_Builder_WriteByte.ann 200 (bodyOf Tryz.f81) (endH PG Tryz.f81 R) (fun t => (#[t0, t1] : Array Value).getD t undef) h0 = strings_Builder_WriteByte t0 t1 h0 R := by kernel_rfl
theorem strings_Builder_WriteByte.call {t0 : Value} {t1 : Value} {h0 : PH} {R : Value → PH → Prop} (H : strings_Builder_WriteByte t0 t1 h0 R) : CallsH PG id_strings_Builder_WriteByte #[t0, t1] h0 R :=
  callsF_by strings_Builder_WriteByte.ann 200 mix Tryz.func81 (by kernel_rfl) (by kernel_rfl) (by kernel_rfl) (by kernel_rfl) (by simp [Tryz.ntmps81]) (strings_Builder_WriteByte.eq t0 t1 h0 R) H

def strings_Builder_copyCheck (t0 : Value) (h0 : PH) (R : Value → PH → Prop) : Prop :=
 popO (SemP PG (nilS t0)) fun v1 =>
 popO (SemP PG (Instr.fieldAt T_strings_Builder v1 0)) fun v2 =>
 popO (SemE PG h0 (Instr.loadAt T_p_strings_Builder v2)) fun v3 =>
 popO (SemE PG h0 (binS BinOp.eql T_p_strings_Builder (.tmp 5) (.const (Value.pointer none)) v3 (Value.pointer none))) fun v4 =>
 condV v4
 (SemH PG (convert T_p_strings_Builder T_unsafe_Pointer t0) h0 fun v5 h6 =>
 CallsH PG id_internal_abi_NoEscape #[v5] h6 fun v7 h8 =>
 SemH PG (convert T_unsafe_Pointer T_p_strings_Builder v7) h8 fun v9 h10 =>
 popO (SemP PG (nilS t0)) fun v11 =>
 popO (SemP PG (Instr.fieldAt T_strings_Builder v11 0)) fun v12 =>
 SemH PG (storeS T_p_strings_Builder v12 v9) h10 fun v13 h14 =>
 R (Value.tuple #[]) h14)
 (popO (SemP PG (nilS t0)) fun v15 =>
 popO (SemP PG (Instr.fieldAt T_strings_Builder v15 0)) fun v16 =>
 popO (SemE PG h0 (Instr.loadAt T_p_strings_Builder v16)) fun v17 =>
 popO (SemE PG h0 (binS BinOp.neq T_p_strings_Builder (.tmp 17) (.tmp 18) v17 t0)) fun v18 =>
 condV v18
 (False)
 (R (Value.tuple #[]) h0))
def strings_Builder_copyCheck.ann : Ann := { b := fun i => match i with  | _ => #[], ord := fun i => match i with  | _ => [], keep := fun i => match i with  | _ => [], n := 20 }
theorem strings_Builder_copyCheck.eq (t0 : Value) (h0 : PH) (R : Value → PH → Prop) : codeF PG strings_Builder_copyCheck.ann 200 (bodyOf Tryz.f101) (endH PG Tryz.f101 R) (fun t => (#[t0] : Array Value).getD t undef) h0 = strings_Builder_copyCheck t0 h0 R := by kernel_rfl
theorem strings_Builder_copyCheck.call {t0 : Value} {h0 : PH} {R : Value → PH → Prop} (H : strings_Builder_copyCheck t0 h0 R) : CallsH PG id_strings_Builder_copyCheck #[t0] h0 R :=
  callsF_by strings_Builder_copyCheck.ann 200 mix Tryz.func101 (by kernel_rfl) (by kernel_rfl) (by kernel_rfl) (by kernel_rfl) (by simp [Tryz.ntmps101]) (strings_Builder_copyCheck.eq t0 h0 R) H

def note_PutPlace_k21 (R : Value → PH → Prop) (t0 : Value) (t3 : Value) (h0 : PH) : Prop :=
 popO (SemP PG (Instr.fieldAt T_api_Place t3 0)) fun v22 =>
 popO (SemE PG h0 (Instr.loadAt T_uint64 v22)) fun v23 =>
 CallsH PG id_wire_Writer_Number #[t0, v23] h0 fun v24 h25 =>
 popO (SemP PG (Instr.fieldAt T_api_Place t3 1)) fun v26 =>
 popO (SemE PG h25 (Instr.loadAt T_int v26)) fun v27 =>
 popO (SemP PG (convert T_int T_uint64 v27)) fun v28 =>
 CallsH PG id_wire_Writer_Number #[t0, v28] h25 fun v29 h30 =>
 R (Value.tuple #[]) h30
def note_PutPlace (t0 : Value) (t1 : Value) (h0 : PH) (R : Value → PH → Prop) : Prop :=
 ∀ r1, h0 r1 = none → bindH (PH.set h0 r1 (.cells (Value.cells t1) T_api_Place)) fun h2 =>
 popO (SemP PG (Instr.fieldAt T_api_Place (Value.pointer (some ⟨r1, 0, none⟩)) 1)) fun v3 =>
 popO (SemE PG h2 (Instr.loadAt T_int v3)) fun v4 =>
 popO (SemP PG (binOp BinOp.lss T_int v4 (Value.int IntKind.i64 0))) fun v5 =>
 gopV (yV v5) false (fun k8 => popO (SemP PG (Instr.fieldAt T_api_Place (Value.pointer (some ⟨r1, 0, none⟩)) 1)) fun v9 => k8 v9 h2) h2 fun v6 h7 =>
 gopV (yV v5) false (fun k12 => popO (SemE PG h7 (Instr.loadAt T_int v6)) fun v13 => k12 v13 h7) h7 fun v10 h11 =>
 gopV (yV v5) false (fun k16 => popO (SemP PG (binOp BinOp.gtr T_int v10 (Value.int IntKind.i64 65535))) fun v17 => k16 v17 h11) h11 fun v14 h15 =>
 popO (pickV v5 (Value.bool true) v14) fun v18 =>
 condV v18
 (CallsH PG id_wire_Writer_Byte #[t0, (Value.int IntKind.i64 (-1))] h15 fun v19 h20 =>
 note_PutPlace_k21 R t0 (Value.pointer (some ⟨r1, 0, none⟩)) h20)
 (note_PutPlace_k21 R t0 (Value.pointer (some ⟨r1, 0, none⟩)) h15)
def note_PutPlace.ann : Ann := { b := fun i => match i with  | _ => #[], ord := fun i => match i with  | _ => [], keep := fun i => match i with  | _ => [], n := 23 }
theorem note_PutPlace.eq (t0 : Value) (t1 : Value) (h0 : PH) (R : Value → PH → Prop) : codeF PG note_PutPlace.ann 200 (bodyOf Tryz.f26) (endH PG Tryz.f26 R) (fun t => (#[t0, t1] : Array Value).getD t undef) h0 = note_PutPlace t0 t1 h0 R := by kernel_rfl
theorem note_PutPlace.call {t0 : Value} {t1 : Value} {h0 : PH} {R : Value → PH → Prop} (H : note_PutPlace t0 t1 h0 R) : CallsH PG id_note_PutPlace #[t0, t1] h0 R :=
  callsF_by note_PutPlace.ann 200 mix Tryz.func26 (by kernel_rfl) (by kernel_rfl) (by kernel_rfl) (by kernel_rfl) (by simp [Tryz.ntmps26]) (note_PutPlace.eq t0 t1 h0 R) H

def wire_Writer_Number (t0 : Value) (t1 : Value) (h0 : PH) (R : Value → PH → Prop) : Prop :=
 CallsH PG id_wire_Writer_put #[t0, t1, (Value.int IntKind.i64 8)] h0 fun v1 h2 =>
 R (Value.tuple #[]) h2
def wire_Writer_Number.ann : Ann := { b := fun i => match i with  | _ => #[], ord := fun i => match i with  | _ => [], keep := fun i => match i with  | _ => [], n := 7 }
theorem wire_Writer_Number.eq (t0 : Value) (t1 : Value) (h0 : PH) (R : Value → PH → Prop) : codeF PG wire_Writer_Number.ann 200 (bodyOf Tryz.f54) (endH PG Tryz.f54 R) (fun t => (#[t0, t1] : Array Value).getD t undef) h0 = wire_Writer_Number t0 t1 h0 R := by kernel_rfl
theorem wire_Writer_Number.call {t0 : Value} {t1 : Value} {h0 : PH} {R : Value → PH → Prop} (H : wire_Writer_Number t0 t1 h0 R) : CallsH PG id_wire_Writer_Number #[t0, t1] h0 R :=
  callsF_by wire_Writer_Number.ann 200 mix Tryz.func54 (by kernel_rfl) (by kernel_rfl) (by kernel_rfl) (by kernel_rfl) (by simp [Tryz.ntmps54]) (wire_Writer_Number.eq t0 t1 h0 R) H

def note_PutItems (t0 : Value) (t1 : Value) (h0 : PH) (R : Value → PH → Prop) : Prop :=
 CallsH PG id_note_put_api_Item #[t0, (Value.func (Fn.func id_note_PutItems_1) #[] #[]), t1] h0 fun v1 h2 =>
 R (Value.tuple #[]) h2
def note_PutItems.ann : Ann := { b := fun i => match i with  | _ => #[], ord := fun i => match i with  | _ => [], keep := fun i => match i with  | _ => [], n := 7 }
theorem note_PutItems.eq (t0 : Value) (t1 : Value) (h0 : PH) (R : Value → PH → Prop) : codeF PG note_PutItems.ann 200 (bodyOf Tryz.f27) (endH PG Tryz.f27 R) (fun t => (#[t0, t1] : Array Value).getD t undef) h0 = note_PutItems t0 t1 h0 R := by kernel_rfl
theorem note_PutItems.call {t0 : Value} {t1 : Value} {h0 : PH} {R : Value → PH → Prop} (H : note_PutItems t0 t1 h0 R) : CallsH PG id_note_PutItems #[t0, t1] h0 R :=
  callsF_by note_PutItems.ann 200 mix Tryz.func27 (by kernel_rfl) (by kernel_rfl) (by kernel_rfl) (by kernel_rfl) (by simp [Tryz.ntmps27]) (note_PutItems.eq t0 t1 h0 R) H

def note_put_api_Item_b6 (R : Value → PH → Prop) (n5 : List Value → PH → Prop) (t0 : Value) (t1 : Value) (t14 : Value) (t15 : Value) (t16 : Value) (h0 : PH) : Prop :=
 popO (SemP PG (binOp BinOp.lss T_int t16 t15)) fun v7 =>
 condV v7
 (popO (SemP PG (Instr.indexAt T_sl_api_Item t14 t16)) fun v8 =>
 popO (SemE PG h0 (Instr.loadAt T_api_Item v8)) fun v9 =>
 ∀ r10, h0 r10 = none → bindH (PH.set h0 r10 (.cells (zcells PG T_api_Item) T_api_Item)) fun h11 =>
 SemH PG (storeS T_api_Item (Value.pointer (some ⟨r10, 0, none⟩)) v9) h11 fun v12 h13 =>
 popO (SemE PG h13 (Instr.loadAt T_api_Item (Value.pointer (some ⟨r10, 0, none⟩)))) fun v14 =>
 callC PG t1 #[v14] h13 fun v15 h16 =>
 popO (SemP PG (Instr.extract v15 0)) fun v17 =>
 popO (SemP PG (Instr.extract v15 1)) fun v18 =>
 ∀ r19, h16 r19 = none → bindH (PH.set h16 r19 (.cells (zcells PG T_api_Packet) T_api_Packet)) fun h20 =>
 SemH PG (storeS T_api_Packet (Value.pointer (some ⟨r19, 0, none⟩)) v18) h20 fun v21 h22 =>
 CallsH PG id_wire_Writer_Byte #[t0, v17] h22 fun v23 h24 =>
 popO (SemE PG h24 (Instr.loadAt T_api_Packet (Value.pointer (some ⟨r19, 0, none⟩)))) fun v25 =>
 CallsH PG id_packet_Put #[t0, v25] h24 fun v26 h27 =>
 popO (SemP PG (binOp BinOp.add T_int t16 (Value.int IntKind.i64 1))) fun v28 =>
 n5 [t0, t1, t14, t15, v28] h27)
 (R (Value.tuple #[]) h0)
def note_put_api_Item (t0 : Value) (t1 : Value) (t2 : Value) (h0 : PH) (R : Value → PH → Prop) : Prop :=
 popO (SemP PG (Builtin.len_ #[T_sl_api_Item] T_int #[t2])) fun v1 =>
 CallsH PG id_wire_Writer_Byte #[t0, v1] h0 fun v2 h3 =>
 popO (SemP PG (Builtin.len_ #[T_sl_api_Item] T_int #[t2])) fun v4 =>
 LoopL [0, 1, 14, 15, 16] (fun n5 ρ h => note_put_api_Item_b6 R n5 (ρ 0) (ρ 1) (ρ 14) (ρ 15) (ρ 16) h) [t0, t1, t2, v4, (Value.int IntKind.i64 0)] h3
def note_put_api_Item.ann : Ann := { b := fun i => match i with  | _ => #[], ord := fun i => match i with  | _ => [], keep := fun i => match i with | 2 => [0, 1, 14, 15, 16] | _ => [], n := 33 }
theorem note_put_api_Item.eq (t0 : Value) (t1 : Value) (t2 : Value) (h0 : PH) (R : Value → PH → Prop) : codeF PG note_put_api_Item.ann 200 (bodyOf Tryz.f55) (endH PG Tryz.f55 R) (fun t => (#[t0, t1, t2] : Array Value).getD t undef) h0 = note_put_api_Item t0 t1 t2 h0 R := by kernel_rfl
theorem note_put_api_Item.call {t0 : Value} {t1 : Value} {t2 : Value} {h0 : PH} {R : Value → PH → Prop} (H : note_put_api_Item t0 t1 t2 h0 R) : CallsH PG id_note_put_api_Item #[t0, t1, t2] h0 R :=
  callsF_by note_put_api_Item.ann 200 mix Tryz.func55 (by kernel_rfl) (by kernel_rfl) (by kernel_rfl) (by kernel_rfl) (by simp [Tryz.ntmps55]) (note_put_api_Item.eq t0 t1 t2 h0 R) H

def packet_Put (t0 : Value) (t1 : Value) (h0 : PH) (R : Value → PH → Prop) : Prop :=
 ∀ r1, h0 r1 = none → bindH (PH.set h0 r1 (.cells (Value.cells t1) T_api_Packet)) fun h2 =>
 popO (SemE PG h2 (Instr.loadAt T_api_Packet (Value.pointer (some ⟨r1, 0, none⟩)))) fun v3 =>
 CallsH PG id_packet_Check #[v3] h2 fun v4 h5 =>
 popO (SemE PG h5 (binS BinOp.neq T_api_Errno (.tmp 5) (.const (Value.int IntKind.i64 0)) v4 (Value.int IntKind.i64 0))) fun v6 =>
 condV v6
 (CallsH PG id_wire_Writer_Byte #[t0, (Value.int IntKind.i64 (-1))] h5 fun v7 h8 =>
 R (Value.tuple #[]) h8)
 (popO (SemP PG (Instr.fieldAt T_api_Packet (Value.pointer (some ⟨r1, 0, none⟩)) 0)) fun v9 =>
 popO (SemE PG h5 (Instr.loadAt T_int v9)) fun v10 =>
 CallsH PG id_wire_Writer_Byte #[t0, v10] h5 fun v11 h12 =>
 popO (SemP PG (Instr.fieldAt T_api_Packet (Value.pointer (some ⟨r1, 0, none⟩)) 1)) fun v13 =>
 popO (SemE PG h12 (Instr.loadAt T_uint64 v13)) fun v14 =>
 CallsH PG id_wire_Writer_Number #[t0, v14] h12 fun v15 h16 =>
 popO (SemP PG (Instr.fieldAt T_api_Packet (Value.pointer (some ⟨r1, 0, none⟩)) 2)) fun v17 =>
 popO (SemE PG h16 (Instr.loadAt T_uint64 v17)) fun v18 =>
 CallsH PG id_wire_Writer_Number #[t0, v18] h16 fun v19 h20 =>
 popO (SemP PG (Instr.fieldAt T_api_Packet (Value.pointer (some ⟨r1, 0, none⟩)) 3)) fun v21 =>
 popO (SemE PG h20 (Instr.loadAt T_string v21)) fun v22 =>
 CallsH PG id_wire_Writer_Text #[t0, v22] h20 fun v23 h24 =>
 R (Value.tuple #[]) h24)
def packet_Put.ann : Ann := { b := fun i => match i with  | _ => #[], ord := fun i => match i with  | _ => [], keep := fun i => match i with  | _ => [], n := 25 }
theorem packet_Put.eq (t0 : Value) (t1 : Value) (h0 : PH) (R : Value → PH → Prop) : codeF PG packet_Put.ann 200 (bodyOf Tryz.f82) (endH PG Tryz.f82 R) (fun t => (#[t0, t1] : Array Value).getD t undef) h0 = packet_Put t0 t1 h0 R := by kernel_rfl
theorem packet_Put.call {t0 : Value} {t1 : Value} {h0 : PH} {R : Value → PH → Prop} (H : packet_Put t0 t1 h0 R) : CallsH PG id_packet_Put #[t0, t1] h0 R :=
  callsF_by packet_Put.ann 200 mix Tryz.func82 (by kernel_rfl) (by kernel_rfl) (by kernel_rfl) (by kernel_rfl) (by simp [Tryz.ntmps82]) (packet_Put.eq t0 t1 h0 R) H

def packet_Check (t0 : Value) (h0 : PH) (R : Value → PH → Prop) : Prop :=
 ∀ r1, h0 r1 = none → bindH (PH.set h0 r1 (.cells (Value.cells t0) T_api_Packet)) fun h2 =>
 popO (SemP PG (Instr.fieldAt T_api_Packet (Value.pointer (some ⟨r1, 0, none⟩)) 0)) fun v3 =>
 popO (SemE PG h2 (Instr.loadAt T_int v3)) fun v4 =>
 popO (SemP PG (binOp BinOp.lss T_int v4 (Value.int IntKind.i64 0))) fun v5 =>
 gopV (yV v5) false (fun k8 => popO (SemP PG (Instr.fieldAt T_api_Packet (Value.pointer (some ⟨r1, 0, none⟩)) 0)) fun v9 => k8 v9 h2) h2 fun v6 h7 =>
 gopV (yV v5) false (fun k12 => popO (SemE PG h7 (Instr.loadAt T_int v6)) fun v13 => k12 v13 h7) h7 fun v10 h11 =>
 gopV (yV v5) false (fun k16 => popO (SemP PG (binOp BinOp.gtr T_int v10 (Value.int IntKind.i64 1))) fun v17 => k16 v17 h11) h11 fun v14 h15 =>
 popO (pickV v5 (Value.bool true) v14) fun v18 =>
 gopV (yV v18) false (fun k21 => popO (SemP PG (Instr.fieldAt T_api_Packet (Value.pointer (some ⟨r1, 0, none⟩)) 1)) fun v22 => k21 v22 h15) h15 fun v19 h20 =>
 gopV (yV v18) false (fun k25 => popO (SemE PG h20 (Instr.loadAt T_uint64 v19)) fun v26 => k25 v26 h20) h20 fun v23 h24 =>
 gopV (yV v18) false (fun k29 => popO (SemE PG h24 (binS BinOp.eql T_uint64 (.tmp 13) (.const (Value.int IntKind.u64 0)) v23 (Value.int IntKind.u64 0))) fun v30 => k29 v30 h24) h24 fun v27 h28 =>
 popO (pickV v18 (Value.bool true) v27) fun v31 =>
 gopV (yV v31) false (fun k34 => popO (SemP PG (Instr.fieldAt T_api_Packet (Value.pointer (some ⟨r1, 0, none⟩)) 2)) fun v35 => k34 v35 h28) h28 fun v32 h33 =>
 gopV (yV v31) false (fun k38 => popO (SemE PG h33 (Instr.loadAt T_uint64 v32)) fun v39 => k38 v39 h33) h33 fun v36 h37 =>
 gopV (yV v31) false (fun k42 => popO (SemE PG h37 (binS BinOp.eql T_uint64 (.tmp 18) (.const (Value.int IntKind.u64 0)) v36 (Value.int IntKind.u64 0))) fun v43 => k42 v43 h37) h37 fun v40 h41 =>
 popO (pickV v31 (Value.bool true) v40) fun v44 =>
 gopV (yV v44) false (fun k47 => popO (SemP PG (Instr.fieldAt T_api_Packet (Value.pointer (some ⟨r1, 0, none⟩)) 3)) fun v48 => k47 v48 h41) h41 fun v45 h46 =>
 gopV (yV v44) false (fun k51 => popO (SemE PG h46 (Instr.loadAt T_string v45)) fun v52 => k51 v52 h46) h46 fun v49 h50 =>
 gopV (yV v44) false (fun k55 => popO (SemP PG (Builtin.len_ #[T_string] T_int #[v49])) fun v56 => k55 v56 h50) h50 fun v53 h54 =>
 gopV (yV v44) false (fun k59 => popO (SemP PG (binOp BinOp.gtr T_int v53 (Value.int IntKind.i64 64))) fun v60 => k59 v60 h54) h54 fun v57 h58 =>
 popO (pickV v44 (Value.bool true) v57) fun v61 =>
 condV v61
 (R (Value.int IntKind.i64 1) h58)
 (R (Value.int IntKind.i64 0) h58)
def packet_Check.ann : Ann := { b := fun i => match i with  | _ => #[], ord := fun i => match i with  | _ => [], keep := fun i => match i with  | _ => [], n := 27 }
theorem packet_Check.eq (t0 : Value) (h0 : PH) (R : Value → PH → Prop) : codeF PG packet_Check.ann 200 (bodyOf Tryz.f34) (endH PG Tryz.f34 R) (fun t => (#[t0] : Array Value).getD t undef) h0 = packet_Check t0 h0 R := by kernel_rfl
theorem packet_Check.call {t0 : Value} {h0 : PH} {R : Value → PH → Prop} (H : packet_Check t0 h0 R) : CallsH PG id_packet_Check #[t0] h0 R :=
  callsF_by packet_Check.ann 200 mix Tryz.func34 (by kernel_rfl) (by kernel_rfl) (by kernel_rfl) (by kernel_rfl) (by simp [Tryz.ntmps34]) (packet_Check.eq t0 h0 R) H

def wire_Writer_Text (t0 : Value) (t1 : Value) (h0 : PH) (R : Value → PH → Prop) : Prop :=
 popO (SemP PG (Builtin.len_ #[T_string] T_int #[t1])) fun v1 =>
 popO (SemP PG (binOp BinOp.gtr T_int v1 (Value.int IntKind.i64 65535))) fun v2 =>
 condV v2
 (popO (SemP PG (nilS t0)) fun v3 =>
 popO (SemP PG (Instr.fieldAt T_wire_Writer v3 0)) fun v4 =>
 CallsH PG id_wire_memory_Fail #[v4, (Value.int IntKind.i64 1)] h0 fun v5 h6 =>
 R (Value.tuple #[]) h6)
 (popO (SemP PG (Builtin.len_ #[T_string] T_int #[t1])) fun v7 =>
 popO (SemP PG (convert T_int T_uint64 v7)) fun v8 =>
 CallsH PG id_wire_Writer_put #[t0, v8, (Value.int IntKind.i64 2)] h0 fun v9 h10 =>
 CallsH PG id_wire_Writer_Raw #[t0, t1] h10 fun v11 h12 =>
 R (Value.tuple #[]) h12)
def wire_Writer_Text.ann : Ann := { b := fun i => match i with  | _ => #[], ord := fun i => match i with  | _ => [], keep := fun i => match i with  | _ => [], n := 19 }
theorem wire_Writer_Text.eq (t0 : Value) (t1 : Value) (h0 : PH) (R : Value → PH → Prop) : codeF PG wire_Writer_Text.ann 200 (bodyOf Tryz.f102) (endH PG Tryz.f102 R) (fun t => (#[t0, t1] : Array Value).getD t undef) h0 = wire_Writer_Text t0 t1 h0 R := by kernel_rfl
theorem wire_Writer_Text.call {t0 : Value} {t1 : Value} {h0 : PH} {R : Value → PH → Prop} (H : wire_Writer_Text t0 t1 h0 R) : CallsH PG id_wire_Writer_Text #[t0, t1] h0 R :=
  callsF_by wire_Writer_Text.ann 200 mix Tryz.func102 (by kernel_rfl) (by kernel_rfl) (by kernel_rfl) (by kernel_rfl) (by simp [Tryz.ntmps102]) (wire_Writer_Text.eq t0 t1 h0 R) H

def wire_Writer_Raw (t0 : Value) (t1 : Value) (h0 : PH) (R : Value → PH → Prop) : Prop :=
 popO (SemP PG (nilS t0)) fun v1 =>
 popO (SemP PG (Instr.fieldAt T_wire_Writer v1 1)) fun v2 =>
 CallsH PG id_strings_Builder_WriteString #[v2, t1] h0 fun v3 h4 =>
 R (Value.tuple #[]) h4
def wire_Writer_Raw.ann : Ann := { b := fun i => match i with  | _ => #[], ord := fun i => match i with  | _ => [], keep := fun i => match i with  | _ => [], n := 9 }
theorem wire_Writer_Raw.eq (t0 : Value) (t1 : Value) (h0 : PH) (R : Value → PH → Prop) : codeF PG wire_Writer_Raw.ann 200 (bodyOf Tryz.f111) (endH PG Tryz.f111 R) (fun t => (#[t0, t1] : Array Value).getD t undef) h0 = wire_Writer_Raw t0 t1 h0 R := by kernel_rfl
theorem wire_Writer_Raw.call {t0 : Value} {t1 : Value} {h0 : PH} {R : Value → PH → Prop} (H : wire_Writer_Raw t0 t1 h0 R) : CallsH PG id_wire_Writer_Raw #[t0, t1] h0 R :=
  callsF_by wire_Writer_Raw.ann 200 mix Tryz.func111 (by kernel_rfl) (by kernel_rfl) (by kernel_rfl) (by kernel_rfl) (by simp [Tryz.ntmps111]) (wire_Writer_Raw.eq t0 t1 h0 R) H

def strings_Builder_WriteString (t0 : Value) (t1 : Value) (h0 : PH) (R : Value → PH → Prop) : Prop :=
 CallsH PG id_strings_Builder_copyCheck #[t0] h0 fun v1 h2 =>
 popO (SemP PG (nilS t0)) fun v3 =>
 popO (SemP PG (Instr.fieldAt T_strings_Builder v3 1)) fun v4 =>
 popO (SemE PG h2 (Instr.loadAt T_sl_uint8 v4)) fun v5 =>
 SemH PG (Builtin.append_ #[T_sl_uint8, T_string] T_sl_uint8 #[v5, t1]) h2 fun v6 h7 =>
 popO (SemP PG (nilS t0)) fun v8 =>
 popO (SemP PG (Instr.fieldAt T_strings_Builder v8 1)) fun v9 =>
 SemH PG (storeS T_sl_uint8 v9 v6) h7 fun v10 h11 =>
 popO (SemP PG (Builtin.len_ #[T_string] T_int #[t1])) fun v12 =>
 R (Value.tuple #[v12, Value.nilIface]) h11
def strings_Builder_WriteString.ann : Ann := { b := fun i => match i with  | _ => #[], ord := fun i => match i with  | _ => [], keep := fun i => match i with  | _ => [], n := 19 }
theorem strings_Builder_WriteString.eq (t0 : Value) (t1 : Value) (h0 : PH) (R : Value → PH → Prop) : codeF PG strings_Builder_WriteString.ann 200 (bodyOf Tryz.f114) (endH PG Tryz.f114 R) (fun t => (#[t0, t1] : Array Value).getD t undef) h0 = strings_Builder_WriteString t0 t1 h0 R := by kernel_rfl
theorem strings_Builder_WriteString.call {t0 : Value} {t1 : Value} {h0 : PH} {R : Value → PH → Prop} (H : strings_Builder_WriteString t0 t1 h0 R) : CallsH PG id_strings_Builder_WriteString #[t0, t1] h0 R :=
  callsF_by strings_Builder_WriteString.ann 200 mix Tryz.func114 (by kernel_rfl) (by kernel_rfl) (by kernel_rfl) (by kernel_rfl) (by simp [Tryz.ntmps114]) (strings_Builder_WriteString.eq t0 t1 h0 R) H

def note_PutItems_1 (t0 : Value) (h0 : PH) (R : Value → PH → Prop) : Prop :=
 ∀ r1, h0 r1 = none → bindH (PH.set h0 r1 (.cells (Value.cells t0) T_api_Item)) fun h2 =>
 ∀ r3, h2 r3 = none → bindH (PH.set h2 r3 (.cells (zcells PG T_api_Packet) T_api_Packet)) fun h4 =>
 popO (SemP PG (Instr.fieldAt T_api_Item (Value.pointer (some ⟨r1, 0, none⟩)) 1)) fun v5 =>
 popO (SemE PG h4 (Instr.loadAt T_int v5)) fun v6 =>
 popO (SemP PG (Instr.fieldAt T_api_Item (Value.pointer (some ⟨r1, 0, none⟩)) 0)) fun v7 =>
 popO (SemE PG h4 (Instr.loadAt T_api_Packet v7)) fun v8 =>
 CallsH PG id_note_kind #[v6, (Value.int IntKind.i64 2)] h4 fun v9 h10 =>
 SemE PG h10 (Instr.loadAt T_api_Packet v7) = some v8 ∧ (SemH PG (storeS T_api_Packet (Value.pointer (some ⟨r3, 0, none⟩)) v8) h10 fun v11 h12 =>
 (popO (SemE PG h12 (Instr.loadAt T_api_Packet (Value.pointer (some ⟨r3, 0, none⟩)))) fun v13 =>
 R (Value.tuple #[v9, v13]) h12))
def note_PutItems_1.ann : Ann := { b := fun i => match i with | 1 => #[0, 1, 3, 0, 8, 7, 63] | _ => #[], ord := fun i => match i with | 1 => [0, 1, 3, 4, 2, 5, 6] | _ => [], keep := fun i => match i with  | _ => [], n := 9 }
theorem note_PutItems_1.eq (t0 : Value) (h0 : PH) (R : Value → PH → Prop) : codeF PG note_PutItems_1.ann 200 (bodyOf Tryz.f56) (endH PG Tryz.f56 R) (fun t => (#[t0] : Array Value).getD t undef) h0 = note_PutItems_1 t0 h0 R := by kernel_rfl
theorem note_PutItems_1.call {t0 : Value} {h0 : PH} {R : Value → PH → Prop} (H : note_PutItems_1 t0 h0 R) : CallsH PG id_note_PutItems_1 #[t0] h0 R :=
  callsF_by note_PutItems_1.ann 200 mix Tryz.func56 (by kernel_rfl) (by kernel_rfl) (by kernel_rfl) (by kernel_rfl) (by simp [Tryz.ntmps56]) (note_PutItems_1.eq t0 h0 R) H

def note_kind (t0 : Value) (t1 : Value) (h0 : PH) (R : Value → PH → Prop) : Prop :=
 popO (SemP PG (binOp BinOp.lss T_int t0 (Value.int IntKind.i64 1))) fun v1 =>
 gopV (yV v1) false (fun k4 => k4 t0 h0) h0 fun v2 h3 =>
 gopV (yV v1) false (fun k7 => k7 t1 h3) h3 fun v5 h6 =>
 gopV (yV v1) false (fun k10 => popO (SemP PG (binOp BinOp.gtr T_int v2 v5)) fun v11 => k10 v11 h6) h6 fun v8 h9 =>
 popO (pickV v1 (Value.bool true) v8) fun v12 =>
 condV v12
 (R (Value.int IntKind.i64 (-1)) h9)
 (R t0 h9)
def note_kind.ann : Ann := { b := fun i => match i with  | _ => #[], ord := fun i => match i with  | _ => [], keep := fun i => match i with  | _ => [], n := 13 }
theorem note_kind.eq (t0 : Value) (t1 : Value) (h0 : PH) (R : Value → PH → Prop) : codeF PG note_kind.ann 200 (bodyOf Tryz.f57) (endH PG Tryz.f57 R) (fun t => (#[t0, t1] : Array Value).getD t undef) h0 = note_kind t0 t1 h0 R := by kernel_rfl
theorem note_kind.call {t0 : Value} {t1 : Value} {h0 : PH} {R : Value → PH → Prop} (H : note_kind t0 t1 h0 R) : CallsH PG id_note_kind #[t0, t1] h0 R :=
  callsF_by note_kind.ann 200 mix Tryz.func57 (by kernel_rfl) (by kernel_rfl) (by kernel_rfl) (by kernel_rfl) (by simp [Tryz.ntmps57]) (note_kind.eq t0 t1 h0 R) H

def wire_Writer_Bytes (t0 : Value) (h0 : PH) (R : Value → PH → Prop) : Prop :=
 popO (SemP PG (nilS t0)) fun v1 =>
 popO (SemP PG (Instr.fieldAt T_wire_Writer v1 0)) fun v2 =>
 CallsH PG id_wire_memory_Err #[v2] h0 fun v3 h4 =>
 popO (SemE PG h4 (binS BinOp.neq T_api_Errno (.tmp 9) (.const (Value.int IntKind.i64 0)) v3 (Value.int IntKind.i64 0))) fun v5 =>
 condV v5
 (R (Value.tuple #[(Value.string { data := #[] }), v3]) h4)
 (popO (SemP PG (nilS t0)) fun v6 =>
 popO (SemP PG (Instr.fieldAt T_wire_Writer v6 1)) fun v7 =>
 CallsH PG id_strings_Builder_String #[v7] h4 fun v8 h9 =>
 R (Value.tuple #[v8, (Value.int IntKind.i64 0)]) h9)
def wire_Writer_Bytes.ann : Ann := { b := fun i => match i with  | _ => #[], ord := fun i => match i with  | _ => [], keep := fun i => match i with  | _ => [], n := 16 }
theorem wire_Writer_Bytes.eq (t0 : Value) (h0 : PH) (R : Value → PH → Prop) : codeF PG wire_Writer_Bytes.ann 200 (bodyOf Tryz.f28) (endH PG Tryz.f28 R) (fun t => (#[t0] : Array Value).getD t undef) h0 = wire_Writer_Bytes t0 h0 R := by kernel_rfl
theorem wire_Writer_Bytes.call {t0 : Value} {h0 : PH} {R : Value → PH → Prop} (H : wire_Writer_Bytes t0 h0 R) : CallsH PG id_wire_Writer_Bytes #[t0] h0 R :=
  callsF_by wire_Writer_Bytes.ann 200 mix Tryz.func28 (by kernel_rfl) (by kernel_rfl) (by kernel_rfl) (by kernel_rfl) (by simp [Tryz.ntmps28]) (wire_Writer_Bytes.eq t0 h0 R) H

def wire_memory_Err (t0 : Value) (h0 : PH) (R : Value → PH → Prop) : Prop :=
 popO (SemP PG (nilS t0)) fun v1 =>
 popO (SemP PG (Instr.fieldAt T_wire_memory v1 0)) fun v2 =>
 popO (SemE PG h0 (Instr.loadAt T_api_Errno v2)) fun v3 =>
 R v3 h0
def wire_memory_Err.ann : Ann := { b := fun i => match i with  | _ => #[], ord := fun i => match i with  | _ => [], keep := fun i => match i with  | _ => [], n := 7 }
theorem wire_memory_Err.eq (t0 : Value) (h0 : PH) (R : Value → PH → Prop) : codeF PG wire_memory_Err.ann 200 (bodyOf Tryz.f58) (endH PG Tryz.f58 R) (fun t => (#[t0] : Array Value).getD t undef) h0 = wire_memory_Err t0 h0 R := by kernel_rfl
theorem wire_memory_Err.call {t0 : Value} {h0 : PH} {R : Value → PH → Prop} (H : wire_memory_Err t0 h0 R) : CallsH PG id_wire_memory_Err #[t0] h0 R :=
  callsF_by wire_memory_Err.ann 200 mix Tryz.func58 (by kernel_rfl) (by kernel_rfl) (by kernel_rfl) (by kernel_rfl) (by simp [Tryz.ntmps58]) (wire_memory_Err.eq t0 h0 R) H

def strings_Builder_String (t0 : Value) (h0 : PH) (R : Value → PH → Prop) : Prop :=
 popO (SemP PG (nilS t0)) fun v1 =>
 popO (SemP PG (Instr.fieldAt T_strings_Builder v1 1)) fun v2 =>
 popO (SemE PG h0 (Instr.loadAt T_sl_uint8 v2)) fun v3 =>
 popO (SemP PG (nilS t0)) fun v4 =>
 popO (SemP PG (Instr.fieldAt T_strings_Builder v4 1)) fun v5 =>
 popO (SemE PG h0 (Instr.loadAt T_sl_uint8 v5)) fun v6 =>
 popO (SemP PG (Builtin.len_ #[T_sl_uint8] T_int #[v6])) fun v7 =>
 SemH PG (Builtin.unsafeSliceData_ #[T_sl_uint8] T_p_uint8 #[v3]) h0 fun v8 h9 =>
 SemE PG h9 (Instr.loadAt T_sl_uint8 v5) = some v6 ∧ (SemH PG (Builtin.unsafeString_ #[T_p_uint8, T_int] T_string #[v8, v7]) h9 fun v10 h11 =>
 (R v10 h11))
def strings_Builder_String.ann : Ann := { b := fun i => match i with | 1 => #[0, 1, 3, 7, 15, 0, 32, 96, 224, 480, 1023, 2047] | _ => #[], ord := fun i => match i with | 1 => [0, 1, 2, 3, 5, 6, 7, 8, 9, 4, 10, 11] | _ => [], keep := fun i => match i with  | _ => [], n := 14 }
theorem strings_Builder_String.eq (t0 : Value) (h0 : PH) (R : Value → PH → Prop) : codeF PG strings_Builder_String.ann 200 (bodyOf Tryz.f59) (endH PG Tryz.f59 R) (fun t => (#[t0] : Array Value).getD t undef) h0 = strings_Builder_String t0 h0 R := by kernel_rfl
theorem strings_Builder_String.call {t0 : Value} {h0 : PH} {R : Value → PH → Prop} (H : strings_Builder_String t0 h0 R) : CallsH PG id_strings_Builder_String #[t0] h0 R :=
  callsF_by strings_Builder_String.ann 200 mix Tryz.func59 (by kernel_rfl) (by kernel_rfl) (by kernel_rfl) (by kernel_rfl) (by simp [Tryz.ntmps59]) (strings_Builder_String.eq t0 h0 R) H

def note_PutNotes (t0 : Value) (t1 : Value) (h0 : PH) (R : Value → PH → Prop) : Prop :=
 CallsH PG id_note_put_api_Note #[t0, (Value.func (Fn.func id_note_PutNotes_1) #[] #[]), t1] h0 fun v1 h2 =>
 R (Value.tuple #[]) h2
def note_PutNotes.ann : Ann := { b := fun i => match i with  | _ => #[], ord := fun i => match i with  | _ => [], keep := fun i => match i with  | _ => [], n := 7 }
theorem note_PutNotes.eq (t0 : Value) (t1 : Value) (h0 : PH) (R : Value → PH → Prop) : codeF PG note_PutNotes.ann 200 (bodyOf Tryz.f29) (endH PG Tryz.f29 R) (fun t => (#[t0, t1] : Array Value).getD t undef) h0 = note_PutNotes t0 t1 h0 R := by kernel_rfl
theorem note_PutNotes.call {t0 : Value} {t1 : Value} {h0 : PH} {R : Value → PH → Prop} (H : note_PutNotes t0 t1 h0 R) : CallsH PG id_note_PutNotes #[t0, t1] h0 R :=
  callsF_by note_PutNotes.ann 200 mix Tryz.func29 (by kernel_rfl) (by kernel_rfl) (by kernel_rfl) (by kernel_rfl) (by simp [Tryz.ntmps29]) (note_PutNotes.eq t0 t1 h0 R) H

def note_put_api_Note_b6 (R : Value → PH → Prop) (n5 : List Value → PH → Prop) (t0 : Value) (t1 : Value) (t14 : Value) (t15 : Value) (t16 : Value) (h0 : PH) : Prop :=
 popO (SemP PG (binOp BinOp.lss T_int t16 t15)) fun v7 =>
 condV v7
 (popO (SemP PG (Instr.indexAt T_sl_api_Note t14 t16)) fun v8 =>
 popO (SemE PG h0 (Instr.loadAt T_api_Note v8)) fun v9 =>
 ∀ r10, h0 r10 = none → bindH (PH.set h0 r10 (.cells (zcells PG T_api_Note) T_api_Note)) fun h11 =>
 SemH PG (storeS T_api_Note (Value.pointer (some ⟨r10, 0, none⟩)) v9) h11 fun v12 h13 =>
 popO (SemE PG h13 (Instr.loadAt T_api_Note (Value.pointer (some ⟨r10, 0, none⟩)))) fun v14 =>
 callC PG t1 #[v14] h13 fun v15 h16 =>
 popO (SemP PG (Instr.extract v15 0)) fun v17 =>
 popO (SemP PG (Instr.extract v15 1)) fun v18 =>
 ∀ r19, h16 r19 = none → bindH (PH.set h16 r19 (.cells (zcells PG T_api_Packet) T_api_Packet)) fun h20 =>
 SemH PG (storeS T_api_Packet (Value.pointer (some ⟨r19, 0, none⟩)) v18) h20 fun v21 h22 =>
 CallsH PG id_wire_Writer_Byte #[t0, v17] h22 fun v23 h24 =>
 popO (SemE PG h24 (Instr.loadAt T_api_Packet (Value.pointer (some ⟨r19, 0, none⟩)))) fun v25 =>
 CallsH PG id_packet_Put #[t0, v25] h24 fun v26 h27 =>
 popO (SemP PG (binOp BinOp.add T_int t16 (Value.int IntKind.i64 1))) fun v28 =>
 n5 [t0, t1, t14, t15, v28] h27)
 (R (Value.tuple #[]) h0)
def note_put_api_Note (t0 : Value) (t1 : Value) (t2 : Value) (h0 : PH) (R : Value → PH → Prop) : Prop :=
 popO (SemP PG (Builtin.len_ #[T_sl_api_Note] T_int #[t2])) fun v1 =>
 CallsH PG id_wire_Writer_Byte #[t0, v1] h0 fun v2 h3 =>
 popO (SemP PG (Builtin.len_ #[T_sl_api_Note] T_int #[t2])) fun v4 =>
 LoopL [0, 1, 14, 15, 16] (fun n5 ρ h => note_put_api_Note_b6 R n5 (ρ 0) (ρ 1) (ρ 14) (ρ 15) (ρ 16) h) [t0, t1, t2, v4, (Value.int IntKind.i64 0)] h3
def note_put_api_Note.ann : Ann := { b := fun i => match i with  | _ => #[], ord := fun i => match i with  | _ => [], keep := fun i => match i with | 2 => [0, 1, 14, 15, 16] | _ => [], n := 33 }
theorem note_put_api_Note.eq (t0 : Value) (t1 : Value) (t2 : Value) (h0 : PH) (R : Value → PH → Prop) : codeF PG note_put_api_Note.ann 200 (bodyOf Tryz.f60) (endH PG Tryz.f60 R) (fun t => (#[t0, t1, t2] : Array Value).getD t undef) h0 = note_put_api_Note t0 t1 t2 h0 R := by kernel_rfl
theorem note_put_api_Note.call {t0 : Value} {t1 : Value} {t2 : Value} {h0 : PH} {R : Value → PH → Prop} (H : note_put_api_Note t0 t1 t2 h0 R) : CallsH PG id_note_put_api_Note #[t0, t1, t2] h0 R :=
  callsF_by note_put_api_Note.ann 200 mix Tryz.func60 (by kernel_rfl) (by kernel_rfl) (by kernel_rfl) (by kernel_rfl) (by simp [Tryz.ntmps60]) (note_put_api_Note.eq t0 t1 t2 h0 R) H

def note_PutNotes_1 (t0 : Value) (h0 : PH) (R : Value → PH → Prop) : Prop :=
 ∀ r1, h0 r1 = none → bindH (PH.set h0 r1 (.cells (Value.cells t0) T_api_Note)) fun h2 =>
 ∀ r3, h2 r3 = none → bindH (PH.set h2 r3 (.cells (zcells PG T_api_Packet) T_api_Packet)) fun h4 =>
 popO (SemP PG (Instr.fieldAt T_api_Note (Value.pointer (some ⟨r1, 0, none⟩)) 0)) fun v5 =>
 popO (SemE PG h4 (Instr.loadAt T_int v5)) fun v6 =>
 popO (SemP PG (Instr.fieldAt T_api_Note (Value.pointer (some ⟨r1, 0, none⟩)) 1)) fun v7 =>
 popO (SemE PG h4 (Instr.loadAt T_api_Packet v7)) fun v8 =>
 CallsH PG id_note_kind #[v6, (Value.int IntKind.i64 4)] h4 fun v9 h10 =>
 SemE PG h10 (Instr.loadAt T_api_Packet v7) = some v8 ∧ (SemH PG (storeS T_api_Packet (Value.pointer (some ⟨r3, 0, none⟩)) v8) h10 fun v11 h12 =>
 (popO (SemE PG h12 (Instr.loadAt T_api_Packet (Value.pointer (some ⟨r3, 0, none⟩)))) fun v13 =>
 R (Value.tuple #[v9, v13]) h12))
def note_PutNotes_1.ann : Ann := { b := fun i => match i with | 1 => #[0, 1, 3, 0, 8, 7, 63] | _ => #[], ord := fun i => match i with | 1 => [0, 1, 3, 4, 2, 5, 6] | _ => [], keep := fun i => match i with  | _ => [], n := 9 }
theorem note_PutNotes_1.eq (t0 : Value) (h0 : PH) (R : Value → PH → Prop) : codeF PG note_PutNotes_1.ann 200 (bodyOf Tryz.f61) (endH PG Tryz.f61 R) (fun t => (#[t0] : Array Value).getD t undef) h0 = note_PutNotes_1 t0 h0 R := by kernel_rfl
theorem note_PutNotes_1.call {t0 : Value} {h0 : PH} {R : Value → PH → Prop} (H : note_PutNotes_1 t0 h0 R) : CallsH PG id_note_PutNotes_1 #[t0] h0 R :=
  callsF_by note_PutNotes_1.ann 200 mix Tryz.func61 (by kernel_rfl) (by kernel_rfl) (by kernel_rfl) (by kernel_rfl) (by simp [Tryz.ntmps61]) (note_PutNotes_1.eq t0 h0 R) H

def record_Replay_b30 (R : Value → PH → Prop) (n29 : List Value → PH → Prop) (t4 : Value) (t6 : Value) (t7 : Value) (t8 : Value) (t25 : Value) (t26 : Value) (t27 : Value) (h0 : PH) : Prop :=
 popO (SemP PG (binOp BinOp.lss T_int t27 t26)) fun v31 =>
 condV v31
 (popO (SemP PG (Instr.indexAt T_sl_string t25 t27)) fun v32 =>
 popO (SemE PG h0 (Instr.loadAt T_string v32)) fun v33 =>
 callC PG t8 #[v33] h0 fun v34 h35 =>
 popO (SemP PG (binOp BinOp.add T_int t27 (Value.int IntKind.i64 1))) fun v36 =>
 n29 [t4, t6, t7, t8, t25, t26, v36] h35)
 (popO (SemE PG h0 (Instr.loadAt T_api_Errno t7)) fun v37 =>
 popO (SemE PG h0 (binS BinOp.neq T_api_Errno (.tmp 35) (.const (Value.int IntKind.i64 0)) v37 (Value.int IntKind.i64 0))) fun v38 =>
 condV v38
 (popO (SemP PG (Instr.build T_api_Daemon #[])) fun v39 =>
 popO (SemE PG h0 (Instr.loadAt T_api_Errno t7)) fun v40 =>
 SemH PG (storeS T_api_Daemon t4 v39) h0 fun v41 h42 =>
 SemE PG h42 (Instr.loadAt T_api_Errno t7) = some v40 ∧ (popO (SemE PG h42 (Instr.loadAt T_api_Daemon t4)) fun v43 =>
 R (Value.tuple #[v43, v40]) h42))
 (popO (SemE PG h0 (Instr.loadAt T_api_Daemon t6)) fun v44 =>
 SemH PG (storeS T_api_Daemon t4 v44) h0 fun v45 h46 =>
 popO (SemE PG h46 (Instr.loadAt T_api_Daemon t4)) fun v47 =>
 R (Value.tuple #[v47, (Value.int IntKind.i64 0)]) h46))
def record_Replay (t0 : Value) (t1 : Value) (h0 : PH) (R : Value → PH → Prop) : Prop :=
 ∀ r1, h0 r1 = none → bindH (PH.set h0 r1 (.cells (Value.cells t0) T_int)) fun h2 =>
 ∀ r3, h2 r3 = none → bindH (PH.set h2 r3 (.cells (zcells PG T_api_Daemon) T_api_Daemon)) fun h4 =>
 popO (SemP PG (Builtin.len_ #[T_sl_string] T_int #[t1])) fun v5 =>
 popO (SemE PG h4 (binS BinOp.eql T_int (.tmp 12) (.const (Value.int IntKind.i64 0)) v5 (Value.int IntKind.i64 0))) fun v6 =>
 condV v6
 (popO (SemP PG (Instr.build T_api_Daemon #[])) fun v7 =>
 SemH PG (storeS T_api_Daemon (Value.pointer (some ⟨r3, 0, none⟩)) v7) h4 fun v8 h9 =>
 popO (SemE PG h9 (Instr.loadAt T_api_Daemon (Value.pointer (some ⟨r3, 0, none⟩)))) fun v10 =>
 R (Value.tuple #[v10, (Value.int IntKind.i64 3)]) h9)
 (popO (SemE PG h4 (Instr.loadAt T_int (Value.pointer (some ⟨r1, 0, none⟩)))) fun v11 =>
 popO (SemP PG (Instr.indexAt T_sl_string t1 (Value.int IntKind.i64 0))) fun v12 =>
 popO (SemE PG h4 (Instr.loadAt T_string v12)) fun v13 =>
 CallsH PG id_record_first #[v11, v13] h4 fun v14 h15 =>
 (popO (SemP PG (Instr.extract v14 0)) fun v16 =>
 popO (SemP PG (Instr.extract v14 1)) fun v17 =>
 ∀ r18, h15 r18 = none → bindH (PH.set h15 r18 (.cells (zcells PG T_api_Daemon) T_api_Daemon)) fun h19 =>
 ∀ r20, h19 r20 = none → bindH (PH.set h19 r20 (.cells (zcells PG T_api_Errno) T_api_Errno)) fun h21 =>
 SemH PG (storeS T_api_Daemon (Value.pointer (some ⟨r18, 0, none⟩)) v16) h21 fun v22 h23 =>
 (SemH PG (storeS T_api_Errno (Value.pointer (some ⟨r20, 0, none⟩)) v17) h23 fun v24 h25 =>
 (popO (SemP PG (Instr.makeFunc (Fn.func id_record_Replay_1) #[] #[(Value.pointer (some ⟨r20, 0, none⟩)), (Value.pointer (some ⟨r18, 0, none⟩)), (Value.pointer (some ⟨r1, 0, none⟩))])) fun v26 =>
 popO (SemP PG (Instr.sliceAt T_sl_string t1 (some (Value.int IntKind.i64 1)) none none)) fun v27 =>
 popO (SemP PG (Builtin.len_ #[T_sl_string] T_int #[v27])) fun v28 =>
 LoopL [4, 6, 7, 8, 25, 26, 27] (fun n29 ρ h => record_Replay_b30 R n29 (ρ 4) (ρ 6) (ρ 7) (ρ 8) (ρ 25) (ρ 26) (ρ 27) h) [(Value.pointer (some ⟨r3, 0, none⟩)), (Value.pointer (some ⟨r18, 0, none⟩)), (Value.pointer (some ⟨r20, 0, none⟩)), v26, v27, v28, (Value.int IntKind.i64 0)] h25))))
def record_Replay.ann : Ann := { b := fun i => match i with | 3 => #[0, 0, 2, 6, 15, 31, 63, 63, 0, 0, 895, 2047] | 11 => #[0, 0, 1, 7] | _ => #[], ord := fun i => match i with | 3 => [0, 1, 2, 3, 4, 5, 6, 7, 8, 9, 10, 11] | 11 => [0, 1, 2, 3] | _ => [], keep := fun i => match i with | 6 => [4, 6, 7, 8, 25, 26, 27] | _ => [], n := 40 }
theorem record_Replay.eq (t0 : Value) (t1 : Value) (h0 : PH) (R : Value → PH → Prop) : codeF PG record_Replay.ann 200 (bodyOf Tryz.f12) (endH PG Tryz.f12 R) (fun t => (#[t0, t1] : Array Value).getD t undef) h0 = record_Replay t0 t1 h0 R := by kernel_rfl
theorem record_Replay.call {t0 : Value} {t1 : Value} {h0 : PH} {R : Value → PH → Prop} (H : record_Replay t0 t1 h0 R) : CallsH PG id_record_Replay #[t0, t1] h0 R :=
  callsF_by record_Replay.ann 200 mix Tryz.func12 (by kernel_rfl) (by kernel_rfl) (by kernel_rfl) (by kernel_rfl) (by simp [Tryz.ntmps12]) (record_Replay.eq t0 t1 h0 R) H

def record_first (t0 : Value) (t1 : Value) (h0 : PH) (R : Value → PH → Prop) : Prop :=
 ∀ r1, h0 r1 = none → bindH (PH.set h0 r1 (.cells (zcells PG T_api_Daemon) T_api_Daemon)) fun h2 =>
 CallsH PG id_record_Parse #[t1] h2 fun v3 h4 =>
 popO (SemP PG (Instr.extract v3 0)) fun v5 =>
 popO (SemP PG (Instr.extract v3 1)) fun v6 =>
 ∀ r7, h4 r7 = none → bindH (PH.set h4 r7 (.cells (zcells PG T_api_Record) T_api_Record)) fun h8 =>
 SemH PG (storeS T_api_Record (Value.pointer (some ⟨r7, 0, none⟩)) v5) h8 fun v9 h10 =>
 popO (SemE PG h10 (binS BinOp.neq T_api_Errno (.tmp 15) (.const (Value.int IntKind.i64 0)) v6 (Value.int IntKind.i64 0))) fun v11 =>
 condV v11
 (popO (SemP PG (Instr.build T_api_Daemon #[])) fun v12 =>
 SemH PG (storeS T_api_Daemon (Value.pointer (some ⟨r1, 0, none⟩)) v12) h10 fun v13 h14 =>
 popO (SemE PG h14 (Instr.loadAt T_api_Daemon (Value.pointer (some ⟨r1, 0, none⟩)))) fun v15 =>
 R (Value.tuple #[v15, v6]) h14)
 (popO (SemP PG (Instr.fieldAt T_api_Record (Value.pointer (some ⟨r7, 0, none⟩)) 0)) fun v16 =>
 popO (SemE PG h10 (Instr.loadAt T_int v16)) fun v17 =>
 popO (SemE PG h10 (binS BinOp.neq T_int (.tmp 21) (.const (Value.int IntKind.i64 1)) v17 (Value.int IntKind.i64 1))) fun v18 =>
 condV v18
 (popO (SemP PG (Instr.build T_api_Daemon #[])) fun v19 =>
 SemH PG (storeS T_api_Daemon (Value.pointer (some ⟨r1, 0, none⟩)) v19) h10 fun v20 h21 =>
 popO (SemE PG h21 (Instr.loadAt T_api_Daemon (Value.pointer (some ⟨r1, 0, none⟩)))) fun v22 =>
 R (Value.tuple #[v22, (Value.int IntKind.i64 5)]) h21)
 (popO (SemP PG (Instr.fieldAt T_api_Record (Value.pointer (some ⟨r7, 0, none⟩)) 1)) fun v23 =>
 popO (SemE PG h10 (Instr.loadAt T_api_Daemon v23)) fun v24 =>
 CallsH PG id_record_Check #[v24, t0] h10 fun v25 h26 =>
 popO (SemE PG h26 (binS BinOp.neq T_api_Errno (.tmp 28) (.const (Value.int IntKind.i64 0)) v25 (Value.int IntKind.i64 0))) fun v27 =>
 condV v27
 (popO (SemP PG (Instr.build T_api_Daemon #[])) fun v28 =>
 SemH PG (storeS T_api_Daemon (Value.pointer (some ⟨r1, 0, none⟩)) v28) h26 fun v29 h30 =>
 popO (SemE PG h30 (Instr.loadAt T_api_Daemon (Value.pointer (some ⟨r1, 0, none⟩)))) fun v31 =>
 R (Value.tuple #[v31, v25]) h30)
 (popO (SemP PG (Instr.fieldAt T_api_Record (Value.pointer (some ⟨r7, 0, none⟩)) 1)) fun v32 =>
 popO (SemE PG h26 (Instr.loadAt T_api_Daemon v32)) fun v33 =>
 SemH PG (storeS T_api_Daemon (Value.pointer (some ⟨r1, 0, none⟩)) v33) h26 fun v34 h35 =>
 popO (SemE PG h35 (Instr.loadAt T_api_Daemon (Value.pointer (some ⟨r1, 0, none⟩)))) fun v36 =>
 R (Value.tuple #[v36, (Value.int IntKind.i64 0)]) h35)))
def record_first.ann : Ann := { b := fun i => match i with  | _ => #[], ord := fun i => match i with  | _ => [], keep := fun i => match i with  | _ => [], n := 34 }
theorem record_first.eq (t0 : Value) (t1 : Value) (h0 : PH) (R : Value → PH → Prop) : codeF PG record_first.ann 200 (bodyOf Tryz.f30) (endH PG Tryz.f30 R) (fun t => (#[t0, t1] : Array Value).getD t undef) h0 = record_first t0 t1 h0 R := by kernel_rfl
theorem record_first.call {t0 : Value} {t1 : Value} {h0 : PH} {R : Value → PH → Prop} (H : record_first t0 t1 h0 R) : CallsH PG id_record_first #[t0, t1] h0 R :=
  callsF_by record_first.ann 200 mix Tryz.func30 (by kernel_rfl) (by kernel_rfl) (by kernel_rfl) (by kernel_rfl) (by simp [Tryz.ntmps30]) (record_first.eq t0 t1 h0 R) H

def record_Check (t0 : Value) (t1 : Value) (h0 : PH) (R : Value → PH → Prop) : Prop :=
 ∀ r1, h0 r1 = none → bindH (PH.set h0 r1 (.cells (Value.cells t0) T_api_Daemon)) fun h2 =>
 popO (SemP PG (Instr.fieldAt T_api_Daemon (Value.pointer (some ⟨r1, 0, none⟩)) 1)) fun v3 =>
 popO (SemE PG h2 (Instr.loadAt T_sl_api_Item v3)) fun v4 =>
 CallsH PG id_table_Of #[t1, v4] h2 fun v5 h6 =>
 popO (SemP PG (Instr.extract v5 0)) fun v7 =>
 popO (SemP PG (Instr.extract v5 1)) fun v8 =>
 popO (SemP PG (Instr.fieldAt T_api_Daemon (Value.pointer (some ⟨r1, 0, none⟩)) 0)) fun v9 =>
 popO (SemP PG (Instr.sliceAt T_2_api_Place v9 none none none)) fun v10 =>
 CallsH PG id_slices_ContainsFunc_sl_api_Place_api_Place #[v10, (Value.func (Fn.func id_record_Check_1) #[] #[])] h6 fun v11 h12 =>
 popO (SemE PG h12 (binS BinOp.eql T_api_Errno (.tmp 19) (.const (Value.int IntKind.i64 1)) v8 (Value.int IntKind.i64 1))) fun v13 =>
 gopV (yV v13) false (fun k16 => k16 v11 h12) h12 fun v14 h15 =>
 popO (pickV v13 (Value.bool true) v14) fun v17 =>
 condV v17
 (R (Value.int IntKind.i64 1) h15)
 (popO (SemE PG h15 (binS BinOp.neq T_api_Errno (.tmp 25) (.const (Value.int IntKind.i64 0)) v8 (Value.int IntKind.i64 0))) fun v18 =>
 condV v18
 (R v8 h15)
 (popO (SemP PG (Instr.fieldAt T_api_Daemon (Value.pointer (some ⟨r1, 0, none⟩)) 1)) fun v19 =>
 popO (SemE PG h15 (Instr.loadAt T_sl_api_Item v19)) fun v20 =>
 CallsH PG id_table_Table_Items #[v7] h15 fun v21 h22 =>
 SemE PG h22 (Instr.loadAt T_sl_api_Item v19) = some v20 ∧ (CallsH PG id_slices_Equal_sl_api_Item_api_Item #[v21, v20] h22 fun v23 h24 =>
 (popO (SemP PG (Op.unary UnOp.not v23)) fun v25 =>
 condV v25
 (R (Value.int IntKind.i64 15) h24)
 (R (Value.int IntKind.i64 0) h24)))))
def record_Check.ann : Ann := { b := fun i => match i with | 7 => #[0, 1, 0, 4, 15, 31, 63] | _ => #[], ord := fun i => match i with | 7 => [0, 2, 3, 1, 4, 5, 6] | _ => [], keep := fun i => match i with  | _ => [], n := 35 }
theorem record_Check.eq (t0 : Value) (t1 : Value) (h0 : PH) (R : Value → PH → Prop) : codeF PG record_Check.ann 200 (bodyOf Tryz.f9) (endH PG Tryz.f9 R) (fun t => (#[t0, t1] : Array Value).getD t undef) h0 = record_Check t0 t1 h0 R := by kernel_rfl
theorem record_Check.call {t0 : Value} {t1 : Value} {h0 : PH} {R : Value → PH → Prop} (H : record_Check t0 t1 h0 R) : CallsH PG id_record_Check #[t0, t1] h0 R :=
  callsF_by record_Check.ann 200 mix Tryz.func9 (by kernel_rfl) (by kernel_rfl) (by kernel_rfl) (by kernel_rfl) (by simp [Tryz.ntmps9]) (record_Check.eq t0 t1 h0 R) H

def table_Of_b8 (R : Value → PH → Prop) (n7 : List Value → PH → Prop) (t0 : Value) (t1 : Value) (t6 : Value) (t8 : Value) (t22 : Value) (t23 : Value) (t24 : Value) (h0 : PH) : Prop :=
 popO (SemP PG (binOp BinOp.lss T_int t24 t23)) fun v9 =>
 condV v9
 (popO (SemP PG (Instr.indexAt T_sl_api_Item t22 t24)) fun v10 =>
 popO (SemE PG h0 (Instr.loadAt T_api_Item v10)) fun v11 =>
 ∀ r12, h0 r12 = none → bindH (PH.set h0 r12 (.cells (zcells PG T_api_Item) T_api_Item)) fun h13 =>
 SemH PG (storeS T_api_Item (Value.pointer (some ⟨r12, 0, none⟩)) v11) h13 fun v14 h15 =>
 popO (SemP PG (Instr.fieldAt T_api_Item (Value.pointer (some ⟨r12, 0, none⟩)) 1)) fun v16 =>
 popO (SemE PG h15 (Instr.loadAt T_int v16)) fun v17 =>
 popO (SemE PG h15 (binS BinOp.neq T_int (.tmp 29) (.const (Value.int IntKind.i64 1)) v17 (Value.int IntKind.i64 1))) fun v18 =>
 gopV (yV v18) true (fun k21 => popO (SemP PG (Instr.fieldAt T_api_Item (Value.pointer (some ⟨r12, 0, none⟩)) 1)) fun v22 => k21 v22 h15) h15 fun v19 h20 =>
 gopV (yV v18) true (fun k25 => popO (SemE PG h20 (Instr.loadAt T_int v19)) fun v26 => k25 v26 h20) h20 fun v23 h24 =>
 gopV (yV v18) true (fun k29 => popO (SemE PG h24 (binS BinOp.neq T_int (.tmp 33) (.const (Value.int IntKind.i64 2)) v23 (Value.int IntKind.i64 2))) fun v30 => k29 v30 h24) h24 fun v27 h28 =>
 popO (pickV v18 v27 (Value.bool false)) fun v31 =>
 gopV (yV v31) false (fun k34 => popO (SemP PG (Instr.fieldAt T_api_Item (Value.pointer (some ⟨r12, 0, none⟩)) 0)) fun v35 => k34 v35 h28) h28 fun v32 h33 =>
 gopV (yV v31) false (fun k38 => popO (SemE PG h33 (Instr.loadAt T_api_Packet v32)) fun v39 => k38 v39 h33) h33 fun v36 h37 =>
 gopV (yV v31) false (fun k42 => CallsH PG id_packet_Check #[v36] h37 fun v43 h44 => k42 v43 h44) h37 fun v40 h41 =>
 gopV (yV v31) false (fun k47 => popO (SemE PG h41 (binS BinOp.neq T_api_Errno (.tmp 39) (.const (Value.int IntKind.i64 0)) v40 (Value.int IntKind.i64 0))) fun v48 => k47 v48 h41) h41 fun v45 h46 =>
 popO (pickV v31 (Value.bool true) v45) fun v49 =>
 condV v49
 (R (Value.tuple #[(Value.pointer none), (Value.int IntKind.i64 1)]) h46)
 (popO (SemP PG (Instr.fieldAt T_api_Item (Value.pointer (some ⟨r12, 0, none⟩)) 0)) fun v50 =>
 popO (SemP PG (Instr.fieldAt T_api_Packet v50 0)) fun v51 =>
 popO (SemE PG h46 (Instr.loadAt T_int v51)) fun v52 =>
 popO (SemP PG (Instr.fieldAt T_api_Item (Value.pointer (some ⟨r12, 0, none⟩)) 0)) fun v53 =>
 popO (SemP PG (Instr.fieldAt T_api_Packet v53 1)) fun v54 =>
 popO (SemE PG h46 (Instr.loadAt T_uint64 v54)) fun v55 =>
 popO (SemP PG (Instr.build T_table_id #[(0, v52), (1, v55)])) fun v56 =>
 ∀ r57, h46 r57 = none → bindH (PH.set h46 r57 (.cells (zcells PG T_table_id) T_table_id)) fun h58 =>
 SemH PG (storeS T_table_id (Value.pointer (some ⟨r57, 0, none⟩)) v56) h58 fun v59 h60 =>
 popO (SemP PG (nilS t6)) fun v61 =>
 popO (SemP PG (Instr.fieldAt T_table_Table v61 0)) fun v62 =>
 popO (SemE PG h60 (Instr.loadAt T_map_table_id_api_Item v62)) fun v63 =>
 popO (SemE PG h60 (Instr.loadAt T_table_id (Value.pointer (some ⟨r57, 0, none⟩)))) fun v64 =>
 popO (SemE PG h60 (Instr.lookup T_map_table_id_api_Item v63 v64 true)) fun v65 =>
 popO (SemP PG (Instr.extract v65 0)) fun v66 =>
 popO (SemP PG (Instr.extract v65 1)) fun v67 =>
 ∀ r68, h60 r68 = none → bindH (PH.set h60 r68 (.cells (zcells PG T_api_Item) T_api_Item)) fun h69 =>
 SemH PG (storeS T_api_Item (Value.pointer (some ⟨r68, 0, none⟩)) v66) h69 fun v70 h71 =>
 (gopV (yV t8) false (fun k74 => k74 v67 h71) h71 fun v72 h73 =>
 popO (pickV t8 (Value.bool true) v72) fun v75 =>
 popO (SemP PG (nilS t6)) fun v76 =>
 popO (SemP PG (Instr.fieldAt T_table_Table v76 0)) fun v77 =>
 popO (SemE PG h73 (Instr.loadAt T_map_table_id_api_Item v77)) fun v78 =>
 popO (SemE PG h73 (Instr.loadAt T_table_id (Value.pointer (some ⟨r57, 0, none⟩)))) fun v79 =>
 popO (SemE PG h73 (Instr.loadAt T_api_Item (Value.pointer (some ⟨r12, 0, none⟩)))) fun v80 =>
 SemH PG (mapUpdS T_map_table_id_api_Item v78 v79 v80) h73 fun v81 h82 =>
 (popO (SemP PG (binOp BinOp.add T_int t24 (Value.int IntKind.i64 1))) fun v83 =>
 n7 [t0, t1, t6, v75, t22, t23, v83] h82))))
 (condV t8
 (R (Value.tuple #[(Value.pointer none), (Value.int IntKind.i64 4)]) h0)
 (popO (SemP PG (Builtin.len_ #[T_sl_api_Item] T_int #[t1])) fun v84 =>
 popO (SemP PG (binOp BinOp.gtr T_int v84 t0)) fun v85 =>
 condV v85
 (R (Value.tuple #[(Value.pointer none), (Value.int IntKind.i64 2)]) h0)
 (R (Value.tuple #[t6, (Value.int IntKind.i64 0)]) h0)))
def table_Of (t0 : Value) (t1 : Value) (h0 : PH) (R : Value → PH → Prop) : Prop :=
 CallsH PG id_table_New #[t0] h0 fun v1 h2 =>
 popO (SemP PG (Instr.extract v1 0)) fun v3 =>
 popO (SemP PG (Instr.extract v1 1)) fun v4 =>
 popO (SemE PG h2 (binS BinOp.neq T_api_Errno (.tmp 19) (.const (Value.int IntKind.i64 0)) v4 (Value.int IntKind.i64 0))) fun v5 =>
 condV v5
 (R (Value.tuple #[(Value.pointer none), v4]) h2)
 (popO (SemP PG (Builtin.len_ #[T_sl_api_Item] T_int #[t1])) fun v6 =>
 LoopL [0, 1, 6, 8, 22, 23, 24] (fun n7 ρ h => table_Of_b8 R n7 (ρ 0) (ρ 1) (ρ 6) (ρ 8) (ρ 22) (ρ 23) (ρ 24) h) [t0, t1, v3, (Value.bool false), t1, v6, (Value.int IntKind.i64 0)] h2)
def table_Of.ann : Ann := { b := fun i => match i with | 11 => #[0, 1, 3, 7, 0, 31, 63, 127, 127, 0, 767, 2047] | 13 => #[0, 1, 3, 7, 0, 0, 63] | _ => #[], ord := fun i => match i with | 11 => [0, 1, 2, 3, 4, 5, 6, 7, 8, 9, 10, 11] | 13 => [0, 1, 2, 3, 4, 5, 6] | _ => [], keep := fun i => match i with | 6 => [0, 1, 6, 8, 22, 23, 24] | _ => [], n := 77 }
theorem table_Of.eq (t0 : Value) (t1 : Value) (h0 : PH) (R : Value → PH → Prop) : codeF PG table_Of.ann 200 (bodyOf Tryz.f14) (endH PG Tryz.f14 R) (fun t => (#[t0, t1] : Array Value).getD t undef) h0 = table_Of t0 t1 h0 R := by kernel_rfl
theorem table_Of.call {t0 : Value} {t1 : Value} {h0 : PH} {R : Value → PH → Prop} (H : table_Of t0 t1 h0 R) : CallsH PG id_table_Of #[t0, t1] h0 R :=
  callsF_by table_Of.ann 200 mix Tryz.func14 (by kernel_rfl) (by kernel_rfl) (by kernel_rfl) (by kernel_rfl) (by simp [Tryz.ntmps14]) (table_Of.eq t0 t1 h0 R) H

def table_New (t0 : Value) (h0 : PH) (R : Value → PH → Prop) : Prop :=
 popO (SemP PG (binOp BinOp.lss T_int t0 (Value.int IntKind.i64 1))) fun v1 =>
 gopV (yV v1) false (fun k4 => k4 t0 h0) h0 fun v2 h3 =>
 gopV (yV v1) false (fun k7 => popO (SemP PG (binOp BinOp.gtr T_int v2 (Value.int IntKind.i64 40))) fun v8 => k7 v8 h3) h3 fun v5 h6 =>
 popO (pickV v1 (Value.bool true) v5) fun v9 =>
 condV v9
 (R (Value.tuple #[(Value.pointer none), (Value.int IntKind.i64 1)]) h6)
 (popO (SemA PG (Instr.makeMap T_map_table_id_api_Item none)) fun x11 => ∀ r10, h6 r10 = none → popO (SemP PG (x11.2 r10)) fun v12 => bindH (PH.set h6 r10 x11.1) fun h13 =>
 popO (SemP PG (Instr.build T_table_Table #[(0, v12), (1, t0)])) fun v14 =>
 ∀ r15, h13 r15 = none → bindH (PH.set h13 r15 (.cells (Value.cells v14) T_table_Table)) fun h16 =>
 R (Value.tuple #[(Value.pointer (some ⟨r15, 0, none⟩)), (Value.int IntKind.i64 0)]) h16)
def table_New.ann : Ann := { b := fun i => match i with  | _ => #[], ord := fun i => match i with  | _ => [], keep := fun i => match i with  | _ => [], n := 14 }
theorem table_New.eq (t0 : Value) (h0 : PH) (R : Value → PH → Prop) : codeF PG table_New.ann 200 (bodyOf Tryz.f33) (endH PG Tryz.f33 R) (fun t => (#[t0] : Array Value).getD t undef) h0 = table_New t0 h0 R := by kernel_rfl
theorem table_New.call {t0 : Value} {h0 : PH} {R : Value → PH → Prop} (H : table_New t0 h0 R) : CallsH PG id_table_New #[t0] h0 R :=
  callsF_by table_New.ann 200 mix Tryz.func33 (by kernel_rfl) (by kernel_rfl) (by kernel_rfl) (by kernel_rfl) (by simp [Tryz.ntmps33]) (table_New.eq t0 h0 R) H

def table_Table_Items (t0 : Value) (h0 : PH) (R : Value → PH → Prop) : Prop :=
 popO (SemP PG (nilS t0)) fun v1 =>
 popO (SemP PG (Instr.fieldAt T_table_Table v1 0)) fun v2 =>
 popO (SemE PG h0 (Instr.loadAt T_map_table_id_api_Item v2)) fun v3 =>
 CallsH PG id_maps_Values_map_table_id_api_Item_table_id_api_Item #[v3] h0 fun v4 h5 =>
 CallsH PG id_slices_Collect_api_Item #[v4] h5 fun v6 h7 =>
 CallsH PG id_slices_SortFunc_sl_api_Item_api_Item #[v6, (Value.func (Fn.func id_table_Table_Items_1) #[] #[])] h7 fun v8 h9 =>
 popO (SemP PG (Builtin.len_ #[T_sl_api_Item] T_int #[v6])) fun v10 =>
 popO (SemA PG (Instr.makeSlice T_sl_api_Item v10 v10)) fun x12 => ∀ r11, h9 r11 = none → popO (SemP PG (x12.2 r11)) fun v13 => bindH (PH.set h9 r11 x12.1) fun h14 =>
 SemH PG (Builtin.copy_ #[T_sl_api_Item, T_sl_api_Item] T_int #[v13, v6]) h14 fun v15 h16 =>
 R v13 h16
def table_Table_Items.ann : Ann := { b := fun i => match i with  | _ => #[], ord := fun i => match i with  | _ => [], keep := fun i => match i with  | _ => [], n := 20 }
theorem table_Table_Items.eq (t0 : Value) (h0 : PH) (R : Value → PH → Prop) : codeF PG table_Table_Items.ann 200 (bodyOf Tryz.f16) (endH PG Tryz.f16 R) (fun t => (#[t0] : Array Value).getD t undef) h0 = table_Table_Items t0 h0 R := by kernel_rfl
theorem table_Table_Items.call {t0 : Value} {h0 : PH} {R : Value → PH → Prop} (H : table_Table_Items t0 h0 R) : CallsH PG id_table_Table_Items #[t0] h0 R :=
  callsF_by table_Table_Items.ann 200 mix Tryz.func16 (by kernel_rfl) (by kernel_rfl) (by kernel_rfl) (by kernel_rfl) (by simp [Tryz.ntmps16]) (table_Table_Items.eq t0 h0 R) H

def slices_Collect_api_Item (t0 : Value) (h0 : PH) (R : Value → PH → Prop) : Prop :=
 CallsH PG id_slices_AppendSeq_sl_api_Item_api_Item #[(Value.slice none 0 0), t0] h0 fun v1 h2 =>
 R v1 h2
def slices_Collect_api_Item.ann : Ann := { b := fun i => match i with  | _ => #[], ord := fun i => match i with  | _ => [], keep := fun i => match i with  | _ => [], n := 5 }
theorem slices_Collect_api_Item.eq (t0 : Value) (h0 : PH) (R : Value → PH → Prop) : codeF PG slices_Collect_api_Item.ann 200 (bodyOf Tryz.f36) (endH PG Tryz.f36 R) (fun t => (#[t0] : Array Value).getD t undef) h0 = slices_Collect_api_Item t0 h0 R := by kernel_rfl
theorem slices_Collect_api_Item.call {t0 : Value} {h0 : PH} {R : Value → PH → Prop} (H : slices_Collect_api_Item t0 h0 R) : CallsH PG id_slices_Collect_api_Item #[t0] h0 R :=
  callsF_by slices_Collect_api_Item.ann 200 mix Tryz.func36 (by kernel_rfl) (by kernel_rfl) (by kernel_rfl) (by kernel_rfl) (by simp [Tryz.ntmps36]) (slices_Collect_api_Item.eq t0 h0 R) H

noncomputable def slices_AppendSeq_sl_api_Item_api_Item_asg0 : Code := ((rangesOf (bodyOf Tryz.f72)).getD 0 (.skip, .skip)).1
noncomputable def slices_AppendSeq_sl_api_Item_api_Item_body0 : Code := ((rangesOf (bodyOf Tryz.f72)).getD 0 (.skip, .skip)).2
def slices_AppendSeq_sl_api_Item_api_Item_r0 (kv : Value → PH → Prop) (l : Nat) (t2 : Value) (t7 : Value) (h0 : PH) : Prop :=
 ∀ r3, h0 r3 = none → bindH (PH.set h0 r3 (.cells (zcells PG T_api_Item) T_api_Item)) fun h4 =>
 SemH PG (storeS T_api_Item (Value.pointer (some ⟨r3, 0, none⟩)) t7) h4 fun v5 h6 =>
 SemH PG (Instr.beginRound l) h6 fun _ h7 =>
 popO (SemE PG h7 (Instr.loadAt T_sl_api_Item t2)) fun v8 =>
 popO (SemE PG h7 (Instr.loadAt T_api_Item (Value.pointer (some ⟨r3, 0, none⟩)))) fun v9 =>
 popO (SemA PG (Instr.buildSlice T_sl_api_Item 1 #[(0, v9)])) fun x11 => ∀ r10, h7 r10 = none → popO (SemP PG (x11.2 r10)) fun v12 => bindH (PH.set h7 r10 x11.1) fun h13 =>
 SemH PG (Builtin.append_ #[T_sl_api_Item, T_sl_api_Item] T_sl_api_Item #[v8, v12]) h13 fun v14 h15 =>
 SemH PG (storeS T_sl_api_Item t2 v14) h15 fun v16 h17 =>
 SemH PG (Instr.endRound l none) h17 kv
def slices_AppendSeq_sl_api_Item_api_Item (t0 : Value) (t1 : Value) (h0 : PH) (R : Value → PH → Prop) : Prop :=
 ∀ r1, h0 r1 = none → bindH (PH.set h0 r1 (.cells (Value.cells t0) T_sl_api_Item)) fun h2 =>
 rangeH PG 13 t1 #[7] slices_AppendSeq_sl_api_Item_api_Item_asg0 slices_AppendSeq_sl_api_Item_api_Item_body0 (fun h18 => popO (SemE PG h18 (Instr.loadAt T_sl_api_Item (Value.pointer (some ⟨r1, 0, none⟩)))) fun v19 =>
 R v19 h18) (fun h20 => R (Value.slice none 0 0) h20) [] [(2, (Value.pointer (some ⟨r1, 0, none⟩)))] h2
def slices_AppendSeq_sl_api_Item_api_Item.ann : Ann := { b := fun i => match i with  | _ => #[], ord := fun i => match i with  | _ => [], keep := fun i => match i with | 3 => [2] | _ => [], n := 13 }
theorem slices_AppendSeq_sl_api_Item_api_Item.eq (t0 : Value) (t1 : Value) (h0 : PH) (R : Value → PH → Prop) : codeF PG slices_AppendSeq_sl_api_Item_api_Item.ann 200 (bodyOf Tryz.f72) (endH PG Tryz.f72 R) (fun t => (#[t0, t1] : Array Value).getD t undef) h0 = slices_AppendSeq_sl_api_Item_api_Item t0 t1 h0 R := by kernel_rfl
theorem slices_AppendSeq_sl_api_Item_api_Item.call {t0 : Value} {t1 : Value} {h0 : PH} {R : Value → PH → Prop} (H : slices_AppendSeq_sl_api_Item_api_Item t0 t1 h0 R) : CallsH PG id_slices_AppendSeq_sl_api_Item_api_Item #[t0, t1] h0 R :=
  callsF_by slices_AppendSeq_sl_api_Item_api_Item.ann 200 mix Tryz.func72 (by kernel_rfl) (by kernel_rfl) (by kernel_rfl) (by kernel_rfl) (by simp [Tryz.ntmps72]) (slices_AppendSeq_sl_api_Item_api_Item.eq t0 t1 h0 R) H
theorem slices_AppendSeq_sl_api_Item_api_Item_r0.eq (kv : Value → PH → Prop) (l : Nat) (ρ : Env) (h0 : PH) : roundF PG slices_AppendSeq_sl_api_Item_api_Item.ann 200 l slices_AppendSeq_sl_api_Item_api_Item_asg0 slices_AppendSeq_sl_api_Item_api_Item_body0 kv ρ h0 = slices_AppendSeq_sl_api_Item_api_Item_r0 kv l (ρ 2) (ρ 7) h0 := by kernel_rfl
theorem slices_AppendSeq_sl_api_Item_api_Item_r0.next {kv : Value → PH → Prop} {l : Nat} {f : FuncId} {tmps : Array Value} {h0 : PH} (hs : tmps.size = 13) (H : slices_AppendSeq_sl_api_Item_api_Item_r0 kv l (tmps.getD 2 undef) (tmps.getD 7 undef) h0) : NextH PG (.round l f tmps slices_AppendSeq_sl_api_Item_api_Item_asg0 slices_AppendSeq_sl_api_Item_api_Item_body0) h0 kv :=
  roundF_by slices_AppendSeq_sl_api_Item_api_Item.ann 200 mix hs (by kernel_rfl) (by kernel_rfl) (slices_AppendSeq_sl_api_Item_api_Item_r0.eq kv l (fun t => tmps.getD t undef) h0) H

def maps_Values_map_table_id_api_Item_table_id_api_Item (t0 : Value) (h0 : PH) (R : Value → PH → Prop) : Prop :=
 ∀ r1, h0 r1 = none → bindH (PH.set h0 r1 (.cells (Value.cells t0) T_map_table_id_api_Item)) fun h2 =>
 popO (SemP PG (Instr.makeFunc (Fn.func id_maps_Values_map_table_id_api_Item_table_id_api_Item_1) #[] #[(Value.pointer (some ⟨r1, 0, none⟩))])) fun v3 =>
 R v3 h2
def maps_Values_map_table_id_api_Item_table_id_api_Item.ann : Ann := { b := fun i => match i with  | _ => #[], ord := fun i => match i with  | _ => [], keep := fun i => match i with  | _ => [], n := 4 }
theorem maps_Values_map_table_id_api_Item_table_id_api_Item.eq (t0 : Value) (h0 : PH) (R : Value → PH → Prop) : codeF PG maps_Values_map_table_id_api_Item_table_id_api_Item.ann 200 (bodyOf Tryz.f37) (endH PG Tryz.f37 R) (fun t => (#[t0] : Array Value).getD t undef) h0 = maps_Values_map_table_id_api_Item_table_id_api_Item t0 h0 R := by kernel_rfl
theorem maps_Values_map_table_id_api_Item_table_id_api_Item.call {t0 : Value} {h0 : PH} {R : Value → PH → Prop} (H : maps_Values_map_table_id_api_Item_table_id_api_Item t0 h0 R) : CallsH PG id_maps_Values_map_table_id_api_Item_table_id_api_Item #[t0] h0 R :=
  callsF_by maps_Values_map_table_id_api_Item_table_id_api_Item.ann 200 mix Tryz.func37 (by kernel_rfl) (by kernel_rfl) (by kernel_rfl) (by kernel_rfl) (by simp [Tryz.ntmps37]) (maps_Values_map_table_id_api_Item_table_id_api_Item.eq t0 h0 R) H

def maps_Values_map_table_id_api_Item_table_id_api_Item_1_b5 (R : Value → PH → Prop) (n4 : List Value → PH → Prop) (t0 : Value) (t6 : Value) (h0 : PH) : Prop :=
 SemH PG (Instr.next t6 false T_) h0 fun v6 h7 =>
 popO (SemP PG (Instr.extract v6 0)) fun v8 =>
 condV v8
 (SemH PG (Instr.entry t6) h7 fun v9 h10 =>
 popO (SemP PG (Instr.extract v9 1)) fun v11 =>
 ∀ r12, h10 r12 = none → bindH (PH.set h10 r12 (.cells (zcells PG T_api_Item) T_api_Item)) fun h13 =>
 SemH PG (storeS T_api_Item (Value.pointer (some ⟨r12, 0, none⟩)) v11) h13 fun v14 h15 =>
 popO (SemE PG h15 (Instr.loadAt T_api_Item (Value.pointer (some ⟨r12, 0, none⟩)))) fun v16 =>
 callC PG t0 #[v16] h15 fun v17 h18 =>
 popO (SemP PG (Op.unary UnOp.not v17)) fun v19 =>
 condV v19
 (R (Value.tuple #[]) h18)
 (n4 [t0, t6] h18))
 (R (Value.tuple #[]) h7)
def maps_Values_map_table_id_api_Item_table_id_api_Item_1 (t0 : Value) (t1 : Value) (h0 : PH) (R : Value → PH → Prop) : Prop :=
 popO (SemE PG h0 (Instr.loadAt T_map_table_id_api_Item t1)) fun v1 =>
 SemH PG (Instr.range T_map_table_id_api_Item v1) h0 fun v2 h3 =>
 LoopL [0, 6] (fun n4 ρ h => maps_Values_map_table_id_api_Item_table_id_api_Item_1_b5 R n4 (ρ 0) (ρ 6) h) [t0, v2] h3
def maps_Values_map_table_id_api_Item_table_id_api_Item_1.ann : Ann := { b := fun i => match i with  | _ => #[], ord := fun i => match i with  | _ => [], keep := fun i => match i with | 1 => [0, 6] | _ => [], n := 15 }
theorem maps_Values_map_table_id_api_Item_table_id_api_Item_1.eq (t0 : Value) (t1 : Value) (h0 : PH) (R : Value → PH → Prop) : codeF PG maps_Values_map_table_id_api_Item_table_id_api_Item_1.ann 200 (bodyOf Tryz.f73) (endH PG Tryz.f73 R) (fun t => (#[t0, t1] : Array Value).getD t undef) h0 = maps_Values_map_table_id_api_Item_table_id_api_Item_1 t0 t1 h0 R := by kernel_rfl
theorem maps_Values_map_table_id_api_Item_table_id_api_Item_1.call {t0 : Value} {t1 : Value} {h0 : PH} {R : Value → PH → Prop} (H : maps_Values_map_table_id_api_Item_table_id_api_Item_1 t0 t1 h0 R) : CallsH PG id_maps_Values_map_table_id_api_Item_table_id_api_Item_1 #[t0, t1] h0 R :=
  callsF_by maps_Values_map_table_id_api_Item_table_id_api_Item_1.ann 200 mix Tryz.func73 (by kernel_rfl) (by kernel_rfl) (by kernel_rfl) (by kernel_rfl) (by simp [Tryz.ntmps73]) (maps_Values_map_table_id_api_Item_table_id_api_Item_1.eq t0 t1 h0 R) H

def table_Table_Items_1 (t0 : Value) (t1 : Value) (h0 : PH) (R : Value → PH → Prop) : Prop :=
 ∀ r1, h0 r1 = none → bindH (PH.set h0 r1 (.cells (Value.cells t0) T_api_Item)) fun h2 =>
 ∀ r3, h2 r3 = none → bindH (PH.set h2 r3 (.cells (Value.cells t1) T_api_Item)) fun h4 =>
 popO (SemP PG (Instr.fieldAt T_api_Item (Value.pointer (some ⟨r1, 0, none⟩)) 0)) fun v5 =>
 popO (SemP PG (Instr.fieldAt T_api_Packet v5 0)) fun v6 =>
 popO (SemE PG h4 (Instr.loadAt T_int v6)) fun v7 =>
 popO (SemP PG (Instr.fieldAt T_api_Item (Value.pointer (some ⟨r3, 0, none⟩)) 0)) fun v8 =>
 popO (SemP PG (Instr.fieldAt T_api_Packet v8 0)) fun v9 =>
 popO (SemE PG h4 (Instr.loadAt T_int v9)) fun v10 =>
 popO (SemP PG (Instr.fieldAt T_api_Item (Value.pointer (some ⟨r1, 0, none⟩)) 0)) fun v11 =>
 popO (SemP PG (Instr.fieldAt T_api_Packet v11 1)) fun v12 =>
 popO (SemE PG h4 (Instr.loadAt T_uint64 v12)) fun v13 =>
 popO (SemP PG (Instr.fieldAt T_api_Item (Value.pointer (some ⟨r3, 0, none⟩)) 0)) fun v14 =>
 popO (SemP PG (Instr.fieldAt T_api_Packet v14 1)) fun v15 =>
 popO (SemE PG h4 (Instr.loadAt T_uint64 v15)) fun v16 =>
 CallsH PG id_cmp_Compare_int #[v7, v10] h4 fun v17 h18 =>
 SemE PG h18 (Instr.loadAt T_uint64 v15) = some v16 ∧ SemE PG h18 (Instr.loadAt T_uint64 v12) = some v13 ∧ (CallsH PG id_cmp_Compare_uint64 #[v13, v16] h18 fun v19 h20 =>
 (popO (SemA PG (Instr.buildSlice T_sl_int 2 #[(0, v17), (1, v19)])) fun x22 => ∀ r21, h20 r21 = none → popO (SemP PG (x22.2 r21)) fun v23 => bindH (PH.set h20 r21 x22.1) fun h24 =>
 CallsH PG id_cmp_Or_int #[v23] h24 fun v25 h26 =>
 (R v25 h26)))
def table_Table_Items_1.ann : Ann := { b := fun i => match i with | 1 => #[0, 1, 3, 0, 8, 24, 63, 0, 128, 384, 0, 1024, 3072, 8191, 16383, 32767, 65535] | _ => #[], ord := fun i => match i with | 1 => [0, 1, 2, 3, 4, 5, 7, 8, 9, 10, 11, 12, 6, 13, 14, 15, 16] | _ => [], keep := fun i => match i with  | _ => [], n := 21 }
theorem table_Table_Items_1.eq (t0 : Value) (t1 : Value) (h0 : PH) (R : Value → PH → Prop) : codeF PG table_Table_Items_1.ann 200 (bodyOf Tryz.f39) (endH PG Tryz.f39 R) (fun t => (#[t0, t1] : Array Value).getD t undef) h0 = table_Table_Items_1 t0 t1 h0 R := by kernel_rfl
theorem table_Table_Items_1.call {t0 : Value} {t1 : Value} {h0 : PH} {R : Value → PH → Prop} (H : table_Table_Items_1 t0 t1 h0 R) : CallsH PG id_table_Table_Items_1 #[t0, t1] h0 R :=
  callsF_by table_Table_Items_1.ann 200 mix Tryz.func39 (by kernel_rfl) (by kernel_rfl) (by kernel_rfl) (by kernel_rfl) (by simp [Tryz.ntmps39]) (table_Table_Items_1.eq t0 t1 h0 R) H

def cmp_Or_int_b3 (R : Value → PH → Prop) (n2 : List Value → PH → Prop) (t3 : Value) (t6 : Value) (t7 : Value) (t8 : Value) (h0 : PH) : Prop :=
 popO (SemP PG (binOp BinOp.lss T_int t8 t7)) fun v4 =>
 condV v4
 (popO (SemP PG (Instr.indexAt T_sl_int t6 t8)) fun v5 =>
 popO (SemE PG h0 (Instr.loadAt T_int v5)) fun v6 =>
 popO (SemE PG h0 (binS BinOp.neq T_int (.tmp 12) (.tmp 13) v6 t3)) fun v7 =>
 condV v7
 (R v6 h0)
 (popO (SemP PG (binOp BinOp.add T_int t8 (Value.int IntKind.i64 1))) fun v8 =>
 n2 [t3, t6, t7, v8] h0))
 (R t3 h0)
def cmp_Or_int (t0 : Value) (h0 : PH) (R : Value → PH → Prop) : Prop :=
 popO (SemP PG (Builtin.len_ #[T_sl_int] T_int #[t0])) fun v1 =>
 LoopL [3, 6, 7, 8] (fun n2 ρ h => cmp_Or_int_b3 R n2 (ρ 3) (ρ 6) (ρ 7) (ρ 8) h) [(Value.int IntKind.i64 0), t0, v1, (Value.int IntKind.i64 0)] h0
def cmp_Or_int.ann : Ann := { b := fun i => match i with  | _ => #[], ord := fun i => match i with  | _ => [], keep := fun i => match i with | 3 => [3, 6, 7, 8] | _ => [], n := 18 }
theorem cmp_Or_int.eq (t0 : Value) (h0 : PH) (R : Value → PH → Prop) : codeF PG cmp_Or_int.ann 200 (bodyOf Tryz.f40) (endH PG Tryz.f40 R) (fun t => (#[t0] : Array Value).getD t undef) h0 = cmp_Or_int t0 h0 R := by kernel_rfl
theorem cmp_Or_int.call {t0 : Value} {h0 : PH} {R : Value → PH → Prop} (H : cmp_Or_int t0 h0 R) : CallsH PG id_cmp_Or_int #[t0] h0 R :=
  callsF_by cmp_Or_int.ann 200 mix Tryz.func40 (by kernel_rfl) (by kernel_rfl) (by kernel_rfl) (by kernel_rfl) (by simp [Tryz.ntmps40]) (cmp_Or_int.eq t0 h0 R) H

def cmp_Compare_int (t0 : Value) (t1 : Value) (h0 : PH) (R : Value → PH → Prop) : Prop :=
 CallsH PG id_cmp_isNaN_int #[t0] h0 fun v1 h2 =>
 CallsH PG id_cmp_isNaN_int #[t1] h2 fun v3 h4 =>
 condV v1
 (condV v3
 (R (Value.int IntKind.i64 0) h4)
 (R (Value.int IntKind.i64 (-1)) h4))
 (condV v3
 (R (Value.int IntKind.i64 1) h4)
 (popO (SemP PG (binOp BinOp.lss T_int t0 t1)) fun v5 =>
 condV v5
 (R (Value.int IntKind.i64 (-1)) h4)
 (popO (SemP PG (binOp BinOp.gtr T_int t0 t1)) fun v6 =>
 condV v6
 (R (Value.int IntKind.i64 1) h4)
 (R (Value.int IntKind.i64 0) h4))))
def cmp_Compare_int.ann : Ann := { b := fun i => match i with  | _ => #[], ord := fun i => match i with  | _ => [], keep := fun i => match i with  | _ => [], n := 20 }
theorem cmp_Compare_int.eq (t0 : Value) (t1 : Value) (h0 : PH) (R : Value → PH → Prop) : codeF PG cmp_Compare_int.ann 200 (bodyOf Tryz.f41) (endH PG Tryz.f41 R) (fun t => (#[t0, t1] : Array Value).getD t undef) h0 = cmp_Compare_int t0 t1 h0 R := by kernel_rfl
theorem cmp_Compare_int.call {t0 : Value} {t1 : Value} {h0 : PH} {R : Value → PH → Prop} (H : cmp_Compare_int t0 t1 h0 R) : CallsH PG id_cmp_Compare_int #[t0, t1] h0 R :=
  callsF_by cmp_Compare_int.ann 200 mix Tryz.func41 (by kernel_rfl) (by kernel_rfl) (by kernel_rfl) (by kernel_rfl) (by simp [Tryz.ntmps41]) (cmp_Compare_int.eq t0 t1 h0 R) H

def cmp_isNaN_int (t0 : Value) (h0 : PH) (R : Value → PH → Prop) : Prop :=
 popO (SemE PG h0 (binS BinOp.neq T_int (.tmp 3) (.tmp 4) t0 t0)) fun v1 =>
 R v1 h0
def cmp_isNaN_int.ann : Ann := { b := fun i => match i with  | _ => #[], ord := fun i => match i with  | _ => [], keep := fun i => match i with  | _ => [], n := 6 }
theorem cmp_isNaN_int.eq (t0 : Value) (h0 : PH) (R : Value → PH → Prop) : codeF PG cmp_isNaN_int.ann 200 (bodyOf Tryz.f76) (endH PG Tryz.f76 R) (fun t => (#[t0] : Array Value).getD t undef) h0 = cmp_isNaN_int t0 h0 R := by kernel_rfl
theorem cmp_isNaN_int.call {t0 : Value} {h0 : PH} {R : Value → PH → Prop} (H : cmp_isNaN_int t0 h0 R) : CallsH PG id_cmp_isNaN_int #[t0] h0 R :=
  callsF_by cmp_isNaN_int.ann 200 mix Tryz.func76 (by kernel_rfl) (by kernel_rfl) (by kernel_rfl) (by kernel_rfl) (by simp [Tryz.ntmps76]) (cmp_isNaN_int.eq t0 h0 R) H

def cmp_Compare_uint64 (t0 : Value) (t1 : Value) (h0 : PH) (R : Value → PH → Prop) : Prop :=
 CallsH PG id_cmp_isNaN_uint64 #[t0] h0 fun v1 h2 =>
 CallsH PG id_cmp_isNaN_uint64 #[t1] h2 fun v3 h4 =>
 condV v1
 (condV v3
 (R (Value.int IntKind.i64 0) h4)
 (R (Value.int IntKind.i64 (-1)) h4))
 (condV v3
 (R (Value.int IntKind.i64 1) h4)
 (popO (SemP PG (binOp BinOp.lss T_uint64 t0 t1)) fun v5 =>
 condV v5
 (R (Value.int IntKind.i64 (-1)) h4)
 (popO (SemP PG (binOp BinOp.gtr T_uint64 t0 t1)) fun v6 =>
 condV v6
 (R (Value.int IntKind.i64 1) h4)
 (R (Value.int IntKind.i64 0) h4))))
def cmp_Compare_uint64.ann : Ann := { b := fun i => match i with  | _ => #[], ord := fun i => match i with  | _ => [], keep := fun i => match i with  | _ => [], n := 20 }
theorem cmp_Compare_uint64.eq (t0 : Value) (t1 : Value) (h0 : PH) (R : Value → PH → Prop) : codeF PG cmp_Compare_uint64.ann 200 (bodyOf Tryz.f42) (endH PG Tryz.f42 R) (fun t => (#[t0, t1] : Array Value).getD t undef) h0 = cmp_Compare_uint64 t0 t1 h0 R := by kernel_rfl
theorem cmp_Compare_uint64.call {t0 : Value} {t1 : Value} {h0 : PH} {R : Value → PH → Prop} (H : cmp_Compare_uint64 t0 t1 h0 R) : CallsH PG id_cmp_Compare_uint64 #[t0, t1] h0 R :=
  callsF_by cmp_Compare_uint64.ann 200 mix Tryz.func42 (by kernel_rfl) (by kernel_rfl) (by kernel_rfl) (by kernel_rfl) (by simp [Tryz.ntmps42]) (cmp_Compare_uint64.eq t0 t1 h0 R) H

def cmp_isNaN_uint64 (t0 : Value) (h0 : PH) (R : Value → PH → Prop) : Prop :=
 popO (SemE PG h0 (binS BinOp.neq T_uint64 (.tmp 3) (.tmp 4) t0 t0)) fun v1 =>
 R v1 h0
def cmp_isNaN_uint64.ann : Ann := { b := fun i => match i with  | _ => #[], ord := fun i => match i with  | _ => [], keep := fun i => match i with  | _ => [], n := 6 }
theorem cmp_isNaN_uint64.eq (t0 : Value) (h0 : PH) (R : Value → PH → Prop) : codeF PG cmp_isNaN_uint64.ann 200 (bodyOf Tryz.f77) (endH PG Tryz.f77 R) (fun t => (#[t0] : Array Value).getD t undef) h0 = cmp_isNaN_uint64 t0 h0 R := by kernel_rfl
theorem cmp_isNaN_uint64.call {t0 : Value} {h0 : PH} {R : Value → PH → Prop} (H : cmp_isNaN_uint64 t0 h0 R) : CallsH PG id_cmp_isNaN_uint64 #[t0] h0 R :=
  callsF_by cmp_isNaN_uint64.ann 200 mix Tryz.func77 (by kernel_rfl) (by kernel_rfl) (by kernel_rfl) (by kernel_rfl) (by simp [Tryz.ntmps77]) (cmp_isNaN_uint64.eq t0 h0 R) H

def slices_ContainsFunc_sl_api_Place_api_Place (t0 : Value) (t1 : Value) (h0 : PH) (R : Value → PH → Prop) : Prop :=
 CallsH PG id_slices_IndexFunc_sl_api_Place_api_Place #[t0, t1] h0 fun v1 h2 =>
 popO (SemP PG (binOp BinOp.geq T_int v1 (Value.int IntKind.i64 0))) fun v3 =>
 R v3 h2
def slices_ContainsFunc_sl_api_Place_api_Place.ann : Ann := { b := fun i => match i with  | _ => #[], ord := fun i => match i with  | _ => [], keep := fun i => match i with  | _ => [], n := 9 }
theorem slices_ContainsFunc_sl_api_Place_api_Place.eq (t0 : Value) (t1 : Value) (h0 : PH) (R : Value → PH → Prop) : codeF PG slices_ContainsFunc_sl_api_Place_api_Place.ann 200 (bodyOf Tryz.f21) (endH PG Tryz.f21 R) (fun t => (#[t0, t1] : Array Value).getD t undef) h0 = slices_ContainsFunc_sl_api_Place_api_Place t0 t1 h0 R := by kernel_rfl
theorem slices_ContainsFunc_sl_api_Place_api_Place.call {t0 : Value} {t1 : Value} {h0 : PH} {R : Value → PH → Prop} (H : slices_ContainsFunc_sl_api_Place_api_Place t0 t1 h0 R) : CallsH PG id_slices_ContainsFunc_sl_api_Place_api_Place #[t0, t1] h0 R :=
  callsF_by slices_ContainsFunc_sl_api_Place_api_Place.ann 200 mix Tryz.func21 (by kernel_rfl) (by kernel_rfl) (by kernel_rfl) (by kernel_rfl) (by simp [Tryz.ntmps21]) (slices_ContainsFunc_sl_api_Place_api_Place.eq t0 t1 h0 R) H

def slices_IndexFunc_sl_api_Place_api_Place_b3 (R : Value → PH → Prop) (n2 : List Value → PH → Prop) (t0 : Value) (t1 : Value) (t7 : Value) (t8 : Value) (h0 : PH) : Prop :=
 popO (SemP PG (binOp BinOp.lss T_int t8 t7)) fun v4 =>
 condV v4
 (popO (SemP PG (Instr.indexAt T_sl_api_Place t0 t8)) fun v5 =>
 popO (SemE PG h0 (Instr.loadAt T_api_Place v5)) fun v6 =>
 callC PG t1 #[v6] h0 fun v7 h8 =>
 condV v7
 (R t8 h8)
 (popO (SemP PG (binOp BinOp.add T_int t8 (Value.int IntKind.i64 1))) fun v9 =>
 n2 [t0, t1, t7, v9] h8))
 (R (Value.int IntKind.i64 (-1)) h0)
def slices_IndexFunc_sl_api_Place_api_Place (t0 : Value) (t1 : Value) (h0 : PH) (R : Value → PH → Prop) : Prop :=
 popO (SemP PG (Builtin.len_ #[T_sl_api_Place] T_int #[t0])) fun v1 =>
 LoopL [0, 1, 7, 8] (fun n2 ρ h => slices_IndexFunc_sl_api_Place_api_Place_b3 R n2 (ρ 0) (ρ 1) (ρ 7) (ρ 8) h) [t0, t1, v1, (Value.int IntKind.i64 0)] h0
def slices_IndexFunc_sl_api_Place_api_Place.ann : Ann := { b := fun i => match i with  | _ => #[], ord := fun i => match i with  | _ => [], keep := fun i => match i with | 2 => [0, 1, 7, 8] | _ => [], n := 19 }
theorem slices_IndexFunc_sl_api_Place_api_Place.eq (t0 : Value) (t1 : Value) (h0 : PH) (R : Value → PH → Prop) : codeF PG slices_IndexFunc_sl_api_Place_api_Place.ann 200 (bodyOf Tryz.f51) (endH PG Tryz.f51 R) (fun t => (#[t0, t1] : Array Value).getD t undef) h0 = slices_IndexFunc_sl_api_Place_api_Place t0 t1 h0 R := by kernel_rfl
theorem slices_IndexFunc_sl_api_Place_api_Place.call {t0 : Value} {t1 : Value} {h0 : PH} {R : Value → PH → Prop} (H : slices_IndexFunc_sl_api_Place_api_Place t0 t1 h0 R) : CallsH PG id_slices_IndexFunc_sl_api_Place_api_Place #[t0, t1] h0 R :=
  callsF_by slices_IndexFunc_sl_api_Place_api_Place.ann 200 mix Tryz.func51 (by kernel_rfl) (by kernel_rfl) (by kernel_rfl) (by kernel_rfl) (by simp [Tryz.ntmps51]) (slices_IndexFunc_sl_api_Place_api_Place.eq t0 t1 h0 R) H

def record_Check_1 (t0 : Value) (h0 : PH) (R : Value → PH → Prop) : Prop :=
 ∀ r1, h0 r1 = none → bindH (PH.set h0 r1 (.cells (Value.cells t0) T_api_Place)) fun h2 =>
 popO (SemP PG (Instr.fieldAt T_api_Place (Value.pointer (some ⟨r1, 0, none⟩)) 1)) fun v3 =>
 popO (SemE PG h2 (Instr.loadAt T_int v3)) fun v4 =>
 popO (SemP PG (binOp BinOp.lss T_int v4 (Value.int IntKind.i64 0))) fun v5 =>
 gopV (yV v5) false (fun k8 => popO (SemP PG (Instr.fieldAt T_api_Place (Value.pointer (some ⟨r1, 0, none⟩)) 1)) fun v9 => k8 v9 h2) h2 fun v6 h7 =>
 gopV (yV v5) false (fun k12 => popO (SemE PG h7 (Instr.loadAt T_int v6)) fun v13 => k12 v13 h7) h7 fun v10 h11 =>
 gopV (yV v5) false (fun k16 => popO (SemP PG (binOp BinOp.gtr T_int v10 (Value.int IntKind.i64 65535))) fun v17 => k16 v17 h11) h11 fun v14 h15 =>
 popO (pickV v5 (Value.bool true) v14) fun v18 =>
 R v18 h15
def record_Check_1.ann : Ann := { b := fun i => match i with  | _ => #[], ord := fun i => match i with  | _ => [], keep := fun i => match i with  | _ => [], n := 11 }
theorem record_Check_1.eq (t0 : Value) (h0 : PH) (R : Value → PH → Prop) : codeF PG record_Check_1.ann 200 (bodyOf Tryz.f22) (endH PG Tryz.f22 R) (fun t => (#[t0] : Array Value).getD t undef) h0 = record_Check_1 t0 h0 R := by kernel_rfl
theorem record_Check_1.call {t0 : Value} {h0 : PH} {R : Value → PH → Prop} (H : record_Check_1 t0 h0 R) : CallsH PG id_record_Check_1 #[t0] h0 R :=
  callsF_by record_Check_1.ann 200 mix Tryz.func22 (by kernel_rfl) (by kernel_rfl) (by kernel_rfl) (by kernel_rfl) (by simp [Tryz.ntmps22]) (record_Check_1.eq t0 h0 R) H

def slices_Equal_sl_api_Item_api_Item_b6 (R : Value → PH → Prop) (n5 : List Value → PH → Prop) (t0 : Value) (t1 : Value) (t12 : Value) (t13 : Value) (h0 : PH) : Prop :=
 popO (SemP PG (binOp BinOp.lss T_int t13 t12)) fun v7 =>
 condV v7
 (popO (SemP PG (Instr.indexAt T_sl_api_Item t0 t13)) fun v8 =>
 popO (SemE PG h0 (Instr.loadAt T_api_Item v8)) fun v9 =>
 popO (SemP PG (Instr.indexAt T_sl_api_Item t1 t13)) fun v10 =>
 popO (SemE PG h0 (Instr.loadAt T_api_Item v10)) fun v11 =>
 popO (SemE PG h0 (binS BinOp.neq T_api_Item (.tmp 19) (.tmp 23) v9 v11)) fun v12 =>
 condV v12
 (R (Value.bool false) h0)
 (popO (SemP PG (binOp BinOp.add T_int t13 (Value.int IntKind.i64 1))) fun v13 =>
 n5 [t0, t1, t12, v13] h0))
 (R (Value.bool true) h0)
def slices_Equal_sl_api_Item_api_Item (t0 : Value) (t1 : Value) (h0 : PH) (R : Value → PH → Prop) : Prop :=
 popO (SemP PG (Builtin.len_ #[T_sl_api_Item] T_int #[t0])) fun v1 =>
 popO (SemP PG (Builtin.len_ #[T_sl_api_Item] T_int #[t1])) fun v2 =>
 popO (SemE PG h0 (binS BinOp.neq T_int (.tmp 7) (.tmp 9) v1 v2)) fun v3 =>
 condV v3
 (R (Value.bool false) h0)
 (popO (SemP PG (Builtin.len_ #[T_sl_api_Item] T_int #[t0])) fun v4 =>
 LoopL [0, 1, 12, 13] (fun n5 ρ h => slices_Equal_sl_api_Item_api_Item_b6 R n5 (ρ 0) (ρ 1) (ρ 12) (ρ 13) h) [t0, t1, v4, (Value.int IntKind.i64 0)] h0)
def slices_Equal_sl_api_Item_api_Item.ann : Ann := { b := fun i => match i with | 6 => #[0, 0, 3, 7, 0, 0, 48, 112, 255] | _ => #[], ord := fun i => match i with | 6 => [0, 1, 2, 3, 4, 5, 6, 7, 8] | _ => [], keep := fun i => match i with | 4 => [0, 1, 12, 13] | _ => [], n := 26 }
theorem slices_Equal_sl_api_Item_api_Item.eq (t0 : Value) (t1 : Value) (h0 : PH) (R : Value → PH → Prop) : codeF PG slices_Equal_sl_api_Item_api_Item.ann 200 (bodyOf Tryz.f23) (endH PG Tryz.f23 R) (fun t => (#[t0, t1] : Array Value).getD t undef) h0 = slices_Equal_sl_api_Item_api_Item t0 t1 h0 R := by kernel_rfl
theorem slices_Equal_sl_api_Item_api_Item.call {t0 : Value} {t1 : Value} {h0 : PH} {R : Value → PH → Prop} (H : slices_Equal_sl_api_Item_api_Item t0 t1 h0 R) : CallsH PG id_slices_Equal_sl_api_Item_api_Item #[t0, t1] h0 R :=
  callsF_by slices_Equal_sl_api_Item_api_Item.ann 200 mix Tryz.func23 (by kernel_rfl) (by kernel_rfl) (by kernel_rfl) (by kernel_rfl) (by simp [Tryz.ntmps23]) (slices_Equal_sl_api_Item_api_Item.eq t0 t1 h0 R) H

def record_Parse_k42 (R : Value → PH → Prop) (t2 : Value) (t4 : Value) (t5 : Value) (h0 : PH) : Prop :=
 CallsH PG id_wire_Reader_End #[t4] h0 fun v43 h44 =>
 popO (SemE PG h44 (binS BinOp.neq T_api_Errno (.tmp 51) (.const (Value.int IntKind.i64 0)) v43 (Value.int IntKind.i64 0))) fun v45 =>
 condV v45
 (popO (SemP PG (Instr.build T_api_Record #[])) fun v46 =>
 SemH PG (storeS T_api_Record t2 v46) h44 fun v47 h48 =>
 popO (SemE PG h48 (Instr.loadAt T_api_Record t2)) fun v49 =>
 R (Value.tuple #[v49, v43]) h48)
 (popO (SemE PG h44 (Instr.loadAt T_api_Record t5)) fun v50 =>
 SemH PG (storeS T_api_Record t2 v50) h44 fun v51 h52 =>
 popO (SemE PG h52 (Instr.loadAt T_api_Record t2)) fun v53 =>
 R (Value.tuple #[v53, (Value.int IntKind.i64 0)]) h52)
def record_Parse_k33 (R : Value → PH → Prop) (t2 : Value) (t4 : Value) (t5 : Value) (h0 : PH) : Prop :=
 popO (SemE PG h0 (Instr.loadAt T_api_Record t5)) fun v34 =>
 CallsH PG id_record_plain #[v34] h0 fun v35 h36 =>
 popO (SemP PG (Op.unary UnOp.not v35)) fun v37 =>
 condV v37
 (popO (SemP PG (nilS t4)) fun v38 =>
 popO (SemP PG (Instr.fieldAt T_wire_Reader v38 0)) fun v39 =>
 CallsH PG id_wire_memory_Fail #[v39, (Value.int IntKind.i64 5)] h36 fun v40 h41 =>
 record_Parse_k42 R t2 t4 t5 h41)
 (record_Parse_k42 R t2 t4 t5 h36)
def record_Parse_k32 (R : Value → PH → Prop) (t2 : Value) (t4 : Value) (t5 : Value) (h0 : PH) : Prop :=
 record_Parse_k33 R t2 t4 t5 h0
def record_Parse_b16 (R : Value → PH → Prop) (n15 : List Value → PH → Prop) (t2 : Value) (t4 : Value) (t5 : Value) (t17 : Value) (h0 : PH) : Prop :=
 popO (SemP PG (binOp BinOp.lss T_int t17 (Value.int IntKind.i64 2))) fun v17 =>
 condV v17
 (CallsH PG id_note_Place #[t4] h0 fun v18 h19 =>
 popO (SemP PG (Instr.fieldAt T_api_Record t5 1)) fun v20 =>
 popO (SemP PG (Instr.fieldAt T_api_Daemon v20 0)) fun v21 =>
 popO (SemP PG (Instr.indexAt T_2_api_Place v21 t17)) fun v22 =>
 SemH PG (storeS T_api_Place v22 v18) h19 fun v23 h24 =>
 popO (SemP PG (binOp BinOp.add T_int t17 (Value.int IntKind.i64 1))) fun v25 =>
 n15 [t2, t4, t5, v25] h24)
 (CallsH PG id_note_Items #[t4] h0 fun v26 h27 =>
 popO (SemP PG (Instr.fieldAt T_api_Record t5 1)) fun v28 =>
 popO (SemP PG (Instr.fieldAt T_api_Daemon v28 1)) fun v29 =>
 SemH PG (storeS T_sl_api_Item v29 v26) h27 fun v30 h31 =>
 record_Parse_k32 R t2 t4 t5 h31)
def record_Parse (t0 : Value) (h0 : PH) (R : Value → PH → Prop) : Prop :=
 ∀ r1, h0 r1 = none → bindH (PH.set h0 r1 (.cells (zcells PG T_api_Record) T_api_Record)) fun h2 =>
 CallsH PG id_wire_NewReader #[t0] h2 fun v3 h4 =>
 CallsH PG id_wire_Reader_Byte #[v3] h4 fun v5 h6 =>
 popO (SemP PG (Instr.build T_api_Record #[(0, v5)])) fun v7 =>
 ∀ r8, h6 r8 = none → bindH (PH.set h6 r8 (.cells (zcells PG T_api_Record) T_api_Record)) fun h9 =>
 SemH PG (storeS T_api_Record (Value.pointer (some ⟨r8, 0, none⟩)) v7) h9 fun v10 h11 =>
 popO (SemP PG (Instr.fieldAt T_api_Record (Value.pointer (some ⟨r8, 0, none⟩)) 0)) fun v12 =>
 popO (SemE PG h11 (Instr.loadAt T_int v12)) fun v13 =>
 popO (SemE PG h11 (binS BinOp.eql T_int (.tmp 14) (.const (Value.int IntKind.i64 1)) v13 (Value.int IntKind.i64 1))) fun v14 =>
 condV v14
 (LoopL [2, 4, 5, 17] (fun n15 ρ h => record_Parse_b16 R n15 (ρ 2) (ρ 4) (ρ 5) (ρ 17) h) [(Value.pointer (some ⟨r1, 0, none⟩)), v3, (Value.pointer (some ⟨r8, 0, none⟩)), (Value.int IntKind.i64 0)] h11)
 (popO (SemE PG h11 (binS BinOp.eql T_int (.tmp 14) (.const (Value.int IntKind.i64 2)) v13 (Value.int IntKind.i64 2))) fun v54 =>
 condV v54
 (CallsH PG id_wire_Reader_Byte #[v3] h11 fun v55 h56 =>
 popO (SemP PG (Instr.fieldAt T_api_Record (Value.pointer (some ⟨r8, 0, none⟩)) 2)) fun v57 =>
 SemH PG (storeS T_int v57 v55) h56 fun v58 h59 =>
 CallsH PG id_note_Place #[v3] h59 fun v60 h61 =>
 popO (SemP PG (Instr.fieldAt T_api_Record (Value.pointer (some ⟨r8, 0, none⟩)) 3)) fun v62 =>
 SemH PG (storeS T_api_Place v62 v60) h61 fun v63 h64 =>
 CallsH PG id_note_Notes #[v3] h64 fun v65 h66 =>
 popO (SemP PG (Instr.fieldAt T_api_Record (Value.pointer (some ⟨r8, 0, none⟩)) 4)) fun v67 =>
 SemH PG (storeS T_sl_api_Note v67 v65) h66 fun v68 h69 =>
 record_Parse_k32 R (Value.pointer (some ⟨r1, 0, none⟩)) v3 (Value.pointer (some ⟨r8, 0, none⟩)) h69)
 (record_Parse_k32 R (Value.pointer (some ⟨r1, 0, none⟩)) v3 (Value.pointer (some ⟨r8, 0, none⟩)) h11))
def record_Parse.ann : Ann := { b := fun i => match i with  | _ => #[], ord := fun i => match i with  | _ => [], keep := fun i => match i with | 6 => [2, 4, 5, 17] | _ => [], n := 56 }
theorem record_Parse.eq (t0 : Value) (h0 : PH) (R : Value → PH → Prop) : codeF PG record_Parse.ann 200 (bodyOf Tryz.f32) (endH PG Tryz.f32 R) (fun t => (#[t0] : Array Value).getD t undef) h0 = record_Parse t0 h0 R := by kernel_rfl
theorem record_Parse.call {t0 : Value} {h0 : PH} {R : Value → PH → Prop} (H : record_Parse t0 h0 R) : CallsH PG id_record_Parse #[t0] h0 R :=
  callsF_by record_Parse.ann 200 mix Tryz.func32 (by kernel_rfl) (by kernel_rfl) (by kernel_rfl) (by kernel_rfl) (by simp [Tryz.ntmps32]) (record_Parse.eq t0 h0 R) H

def wire_NewReader (t0 : Value) (h0 : PH) (R : Value → PH → Prop) : Prop :=
 popO (SemP PG (Instr.build T_wire_Reader #[(1, t0)])) fun v1 =>
 ∀ r2, h0 r2 = none → bindH (PH.set h0 r2 (.cells (Value.cells v1) T_wire_Reader)) fun h3 =>
 R (Value.pointer (some ⟨r2, 0, none⟩)) h3
def wire_NewReader.ann : Ann := { b := fun i => match i with  | _ => #[], ord := fun i => match i with  | _ => [], keep := fun i => match i with  | _ => [], n := 6 }
theorem wire_NewReader.eq (t0 : Value) (h0 : PH) (R : Value → PH → Prop) : codeF PG wire_NewReader.ann 200 (bodyOf Tryz.f62) (endH PG Tryz.f62 R) (fun t => (#[t0] : Array Value).getD t undef) h0 = wire_NewReader t0 h0 R := by kernel_rfl
theorem wire_NewReader.call {t0 : Value} {h0 : PH} {R : Value → PH → Prop} (H : wire_NewReader t0 h0 R) : CallsH PG id_wire_NewReader #[t0] h0 R :=
  callsF_by wire_NewReader.ann 200 mix Tryz.func62 (by kernel_rfl) (by kernel_rfl) (by kernel_rfl) (by kernel_rfl) (by simp [Tryz.ntmps62]) (wire_NewReader.eq t0 h0 R) H

def wire_Reader_Byte (t0 : Value) (h0 : PH) (R : Value → PH → Prop) : Prop :=
 CallsH PG id_wire_Reader_get #[t0, (Value.int IntKind.i64 1)] h0 fun v1 h2 =>
 popO (SemP PG (convert T_uint64 T_int v1)) fun v3 =>
 R v3 h2
def wire_Reader_Byte.ann : Ann := { b := fun i => match i with  | _ => #[], ord := fun i => match i with  | _ => [], keep := fun i => match i with  | _ => [], n := 6 }
theorem wire_Reader_Byte.eq (t0 : Value) (h0 : PH) (R : Value → PH → Prop) : codeF PG wire_Reader_Byte.ann 200 (bodyOf Tryz.f63) (endH PG Tryz.f63 R) (fun t => (#[t0] : Array Value).getD t undef) h0 = wire_Reader_Byte t0 h0 R := by kernel_rfl
theorem wire_Reader_Byte.call {t0 : Value} {h0 : PH} {R : Value → PH → Prop} (H : wire_Reader_Byte t0 h0 R) : CallsH PG id_wire_Reader_Byte #[t0] h0 R :=
  callsF_by wire_Reader_Byte.ann 200 mix Tryz.func63 (by kernel_rfl) (by kernel_rfl) (by kernel_rfl) (by kernel_rfl) (by simp [Tryz.ntmps63]) (wire_Reader_Byte.eq t0 h0 R) H

def wire_Reader_get_b7 (R : Value → PH → Prop) (n6 : List Value → PH → Prop) (t5 : Value) (t11 : Value) (t12 : Value) (t13 : Value) (h0 : PH) : Prop :=
 popO (SemP PG (binOp BinOp.lss T_int t13 t12)) fun v8 =>
 condV v8
 (popO (SemP PG (Instr.indexAt T_sl_uint8 t11 t13)) fun v9 =>
 popO (SemE PG h0 (Instr.loadAt T_uint8 v9)) fun v10 =>
 popO (SemP PG (binOp BinOp.shl T_uint64 t5 (Value.int IntKind.u64 8))) fun v11 =>
 popO (SemP PG (convert T_uint8 T_uint64 v10)) fun v12 =>
 popO (SemP PG (binOp BinOp.or T_uint64 v11 v12)) fun v13 =>
 popO (SemP PG (binOp BinOp.add T_int t13 (Value.int IntKind.i64 1))) fun v14 =>
 n6 [v13, t11, t12, v14] h0)
 (R t5 h0)
def wire_Reader_get (t0 : Value) (t1 : Value) (h0 : PH) (R : Value → PH → Prop) : Prop :=
 CallsH PG id_wire_Reader_Raw #[t0, t1] h0 fun v1 h2 =>
 SemH PG (convert T_string T_sl_uint8 v1) h2 fun v3 h4 =>
 popO (SemP PG (Builtin.len_ #[T_sl_uint8] T_int #[v3])) fun v5 =>
 LoopL [5, 11, 12, 13] (fun n6 ρ h => wire_Reader_get_b7 R n6 (ρ 5) (ρ 11) (ρ 12) (ρ 13) h) [(Value.int IntKind.u64 0), v3, v5, (Value.int IntKind.i64 0)] h4
def wire_Reader_get.ann : Ann := { b := fun i => match i with  | _ => #[], ord := fun i => match i with  | _ => [], keep := fun i => match i with | 3 => [5, 11, 12, 13] | _ => [], n := 24 }
theorem wire_Reader_get.eq (t0 : Value) (t1 : Value) (h0 : PH) (R : Value → PH → Prop) : codeF PG wire_Reader_get.ann 200 (bodyOf Tryz.f83) (endH PG Tryz.f83 R) (fun t => (#[t0, t1] : Array Value).getD t undef) h0 = wire_Reader_get t0 t1 h0 R := by kernel_rfl
theorem wire_Reader_get.call {t0 : Value} {t1 : Value} {h0 : PH} {R : Value → PH → Prop} (H : wire_Reader_get t0 t1 h0 R) : CallsH PG id_wire_Reader_get #[t0, t1] h0 R :=
  callsF_by wire_Reader_get.ann 200 mix Tryz.func83 (by kernel_rfl) (by kernel_rfl) (by kernel_rfl) (by kernel_rfl) (by simp [Tryz.ntmps83]) (wire_Reader_get.eq t0 t1 h0 R) H

def wire_Reader_Raw_k33 (R : Value → PH → Prop) (t0 : Value) (t1 : Value) (h0 : PH) : Prop :=
 popO (SemP PG (nilS t0)) fun v34 =>
 popO (SemP PG (Instr.fieldAt T_wire_Reader v34 0)) fun v35 =>
 CallsH PG id_wire_memory_Err #[v35] h0 fun v36 h37 =>
 popO (SemE PG h37 (binS BinOp.neq T_api_Errno (.tmp 24) (.const (Value.int IntKind.i64 0)) v36 (Value.int IntKind.i64 0))) fun v38 =>
 condV v38
 (R (Value.string { data := #[] }) h37)
 (popO (SemP PG (nilS t0)) fun v39 =>
 popO (SemP PG (Instr.fieldAt T_wire_Reader v39 1)) fun v40 =>
 popO (SemE PG h37 (Instr.loadAt T_string v40)) fun v41 =>
 popO (SemP PG (Instr.sliceAt T_string v41 none (some t1) none)) fun v42 =>
 popO (SemP PG (nilS t0)) fun v43 =>
 popO (SemP PG (Instr.fieldAt T_wire_Reader v43 1)) fun v44 =>
 popO (SemE PG h37 (Instr.loadAt T_string v44)) fun v45 =>
 popO (SemP PG (Instr.sliceAt T_string v45 (some t1) none none)) fun v46 =>
 popO (SemP PG (nilS t0)) fun v47 =>
 popO (SemP PG (Instr.fieldAt T_wire_Reader v47 1)) fun v48 =>
 SemH PG (storeS T_string v48 v46) h37 fun v49 h50 =>
 R v42 h50)
def wire_Reader_Raw (t0 : Value) (t1 : Value) (h0 : PH) (R : Value → PH → Prop) : Prop :=
 popO (SemP PG (binOp BinOp.lss T_int t1 (Value.int IntKind.i64 0))) fun v1 =>
 gopV (yV v1) false (fun k4 => k4 t1 h0) h0 fun v2 h3 =>
 gopV (yV v1) false (fun k7 => k7 t0 h3) h3 fun v5 h6 =>
 gopV (yV v1) false (fun k10 => popO (SemP PG (nilS v5)) fun v11 => k10 v11 h6) h6 fun v8 h9 =>
 gopV (yV v1) false (fun k14 => popO (SemP PG (Instr.fieldAt T_wire_Reader v8 1)) fun v15 => k14 v15 h9) h9 fun v12 h13 =>
 gopV (yV v1) false (fun k18 => popO (SemE PG h13 (Instr.loadAt T_string v12)) fun v19 => k18 v19 h13) h13 fun v16 h17 =>
 gopV (yV v1) false (fun k22 => popO (SemP PG (Builtin.len_ #[T_string] T_int #[v16])) fun v23 => k22 v23 h17) h17 fun v20 h21 =>
 gopV (yV v1) false (fun k26 => popO (SemP PG (binOp BinOp.gtr T_int v2 v20)) fun v27 => k26 v27 h21) h21 fun v24 h25 =>
 popO (pickV v1 (Value.bool true) v24) fun v28 =>
 condV v28
 (popO (SemP PG (nilS t0)) fun v29 =>
 popO (SemP PG (Instr.fieldAt T_wire_Reader v29 0)) fun v30 =>
 CallsH PG id_wire_memory_Fail #[v30, (Value.int IntKind.i64 6)] h25 fun v31 h32 =>
 wire_Reader_Raw_k33 R t0 t1 h32)
 (wire_Reader_Raw_k33 R t0 t1 h25)
def wire_Reader_Raw.ann : Ann := { b := fun i => match i with  | _ => #[], ord := fun i => match i with  | _ => [], keep := fun i => match i with  | _ => [], n := 42 }
theorem wire_Reader_Raw.eq (t0 : Value) (t1 : Value) (h0 : PH) (R : Value → PH → Prop) : codeF PG wire_Reader_Raw.ann 200 (bodyOf Tryz.f103) (endH PG Tryz.f103 R) (fun t => (#[t0, t1] : Array Value).getD t undef) h0 = wire_Reader_Raw t0 t1 h0 R := by kernel_rfl
theorem wire_Reader_Raw.call {t0 : Value} {t1 : Value} {h0 : PH} {R : Value → PH → Prop} (H : wire_Reader_Raw t0 t1 h0 R) : CallsH PG id_wire_Reader_Raw #[t0, t1] h0 R :=
  callsF_by wire_Reader_Raw.ann 200 mix Tryz.func103 (by kernel_rfl) (by kernel_rfl) (by kernel_rfl) (by kernel_rfl) (by simp [Tryz.ntmps103]) (wire_Reader_Raw.eq t0 t1 h0 R) H

def note_Place_k12 (R : Value → PH → Prop) (t0 : Value) (t2 : Value) (t3 : Value) (t4 : Value) (h0 : PH) : Prop :=
 popO (SemP PG (nilS t0)) fun v13 =>
 popO (SemP PG (Instr.fieldAt T_wire_Reader v13 0)) fun v14 =>
 CallsH PG id_wire_memory_Err #[v14] h0 fun v15 h16 =>
 popO (SemE PG h16 (binS BinOp.neq T_api_Errno (.tmp 18) (.const (Value.int IntKind.i64 0)) v15 (Value.int IntKind.i64 0))) fun v17 =>
 condV v17
 (popO (SemP PG (Instr.build T_api_Place #[])) fun v18 =>
 SemH PG (storeS T_api_Place t2 v18) h16 fun v19 h20 =>
 popO (SemE PG h20 (Instr.loadAt T_api_Place t2)) fun v21 =>
 R v21 h20)
 (popO (SemP PG (convert T_uint64 T_int t4)) fun v22 =>
 popO (SemP PG (Instr.build T_api_Place #[(0, t3), (1, v22)])) fun v23 =>
 SemH PG (storeS T_api_Place t2 v23) h16 fun v24 h25 =>
 popO (SemE PG h25 (Instr.loadAt T_api_Place t2)) fun v26 =>
 R v26 h25)
def note_Place (t0 : Value) (h0 : PH) (R : Value → PH → Prop) : Prop :=
 ∀ r1, h0 r1 = none → bindH (PH.set h0 r1 (.cells (zcells PG T_api_Place) T_api_Place)) fun h2 =>
 CallsH PG id_wire_Reader_Number #[t0] h2 fun v3 h4 =>
 CallsH PG id_wire_Reader_Number #[t0] h4 fun v5 h6 =>
 popO (SemP PG (binOp BinOp.gtr T_uint64 v5 (Value.int IntKind.u64 65535))) fun v7 =>
 condV v7
 (popO (SemP PG (nilS t0)) fun v8 =>
 popO (SemP PG (Instr.fieldAt T_wire_Reader v8 0)) fun v9 =>
 CallsH PG id_wire_memory_Fail #[v9, (Value.int IntKind.i64 5)] h6 fun v10 h11 =>
 note_Place_k12 R t0 (Value.pointer (some ⟨r1, 0, none⟩)) v3 v5 h11)
 (note_Place_k12 R t0 (Value.pointer (some ⟨r1, 0, none⟩)) v3 v5 h6)
def note_Place.ann : Ann := { b := fun i => match i with  | _ => #[], ord := fun i => match i with  | _ => [], keep := fun i => match i with  | _ => [], n := 25 }
theorem note_Place.eq (t0 : Value) (h0 : PH) (R : Value → PH → Prop) : codeF PG note_Place.ann 200 (bodyOf Tryz.f64) (endH PG Tryz.f64 R) (fun t => (#[t0] : Array Value).getD t undef) h0 = note_Place t0 h0 R := by kernel_rfl
theorem note_Place.call {t0 : Value} {h0 : PH} {R : Value → PH → Prop} (H : note_Place t0 h0 R) : CallsH PG id_note_Place #[t0] h0 R :=
  callsF_by note_Place.ann 200 mix Tryz.func64 (by kernel_rfl) (by kernel_rfl) (by kernel_rfl) (by kernel_rfl) (by simp [Tryz.ntmps64]) (note_Place.eq t0 h0 R) H

def wire_Reader_Number (t0 : Value) (h0 : PH) (R : Value → PH → Prop) : Prop :=
 CallsH PG id_wire_Reader_get #[t0, (Value.int IntKind.i64 8)] h0 fun v1 h2 =>
 R v1 h2
def wire_Reader_Number.ann : Ann := { b := fun i => match i with  | _ => #[], ord := fun i => match i with  | _ => [], keep := fun i => match i with  | _ => [], n := 5 }
theorem wire_Reader_Number.eq (t0 : Value) (h0 : PH) (R : Value → PH → Prop) : codeF PG wire_Reader_Number.ann 200 (bodyOf Tryz.f84) (endH PG Tryz.f84 R) (fun t => (#[t0] : Array Value).getD t undef) h0 = wire_Reader_Number t0 h0 R := by kernel_rfl
theorem wire_Reader_Number.call {t0 : Value} {h0 : PH} {R : Value → PH → Prop} (H : wire_Reader_Number t0 h0 R) : CallsH PG id_wire_Reader_Number #[t0] h0 R :=
  callsF_by wire_Reader_Number.ann 200 mix Tryz.func84 (by kernel_rfl) (by kernel_rfl) (by kernel_rfl) (by kernel_rfl) (by simp [Tryz.ntmps84]) (wire_Reader_Number.eq t0 h0 R) H

def note_Items (t0 : Value) (h0 : PH) (R : Value → PH → Prop) : Prop :=
 CallsH PG id_note_get_api_Item #[t0, (Value.int IntKind.i64 2), (Value.func (Fn.func id_note_Items_1) #[] #[])] h0 fun v1 h2 =>
 R v1 h2
def note_Items.ann : Ann := { b := fun i => match i with  | _ => #[], ord := fun i => match i with  | _ => [], keep := fun i => match i with  | _ => [], n := 5 }
theorem note_Items.eq (t0 : Value) (h0 : PH) (R : Value → PH → Prop) : codeF PG note_Items.ann 200 (bodyOf Tryz.f65) (endH PG Tryz.f65 R) (fun t => (#[t0] : Array Value).getD t undef) h0 = note_Items t0 h0 R := by kernel_rfl
theorem note_Items.call {t0 : Value} {h0 : PH} {R : Value → PH → Prop} (H : note_Items t0 h0 R) : CallsH PG id_note_Items #[t0] h0 R :=
  callsF_by note_Items.ann 200 mix Tryz.func65 (by kernel_rfl) (by kernel_rfl) (by kernel_rfl) (by kernel_rfl) (by simp [Tryz.ntmps65]) (note_Items.eq t0 h0 R) H

def note_get_api_Item_k51 (R : Value → PH → Prop) (n3 : List Value → PH → Prop) (t0 : Value) (t1 : Value) (t2 : Value) (t7 : Value) (t8 : Value) (t9 : Value) (t10 : Value) (h0 : PH) : Prop :=
 popO (SemE PG h0 (Instr.loadAt T_api_Packet t10)) fun v52 =>
 callC PG t2 #[t9, v52] h0 fun v53 h54 =>
 popO (SemA PG (Instr.buildSlice T_sl_api_Item 1 #[(0, v53)])) fun x56 => ∀ r55, h54 r55 = none → popO (SemP PG (x56.2 r55)) fun v57 => bindH (PH.set h54 r55 x56.1) fun h58 =>
 SemH PG (Builtin.append_ #[T_sl_api_Item, T_sl_api_Item] T_sl_api_Item #[t7, v57]) h58 fun v59 h60 =>
 popO (SemP PG (binOp BinOp.sub T_int t8 (Value.int IntKind.i64 1))) fun v61 =>
 n3 [t0, t1, t2, v59, v61] h60
def note_get_api_Item_b4 (R : Value → PH → Prop) (n3 : List Value → PH → Prop) (t0 : Value) (t1 : Value) (t2 : Value) (t7 : Value) (t8 : Value) (h0 : PH) : Prop :=
 popO (SemP PG (binOp BinOp.gtr T_int t8 (Value.int IntKind.i64 0))) fun v5 =>
 gopV (yV v5) true (fun k8 => k8 t0 h0) h0 fun v6 h7 =>
 gopV (yV v5) true (fun k11 => popO (SemP PG (nilS v6)) fun v12 => k11 v12 h7) h7 fun v9 h10 =>
 gopV (yV v5) true (fun k15 => popO (SemP PG (Instr.fieldAt T_wire_Reader v9 0)) fun v16 => k15 v16 h10) h10 fun v13 h14 =>
 gopV (yV v5) true (fun k19 => CallsH PG id_wire_memory_Err #[v13] h14 fun v20 h21 => k19 v20 h21) h14 fun v17 h18 =>
 gopV (yV v5) true (fun k24 => popO (SemE PG h18 (binS BinOp.eql T_api_Errno (.tmp 19) (.const (Value.int IntKind.i64 0)) v17 (Value.int IntKind.i64 0))) fun v25 => k24 v25 h18) h18 fun v22 h23 =>
 popO (pickV v5 v22 (Value.bool false)) fun v26 =>
 condV v26
 (CallsH PG id_wire_Reader_Byte #[t0] h23 fun v27 h28 =>
 CallsH PG id_packet_Get #[t0] h28 fun v29 h30 =>
 ∀ r31, h30 r31 = none → bindH (PH.set h30 r31 (.cells (zcells PG T_api_Packet) T_api_Packet)) fun h32 =>
 SemH PG (storeS T_api_Packet (Value.pointer (some ⟨r31, 0, none⟩)) v29) h32 fun v33 h34 =>
 popO (SemP PG (binOp BinOp.lss T_int v27 (Value.int IntKind.i64 1))) fun v35 =>
 gopV (yV v35) false (fun k38 => k38 v27 h34) h34 fun v36 h37 =>
 gopV (yV v35) false (fun k41 => k41 t1 h37) h37 fun v39 h40 =>
 gopV (yV v35) false (fun k44 => popO (SemP PG (binOp BinOp.gtr T_int v36 v39)) fun v45 => k44 v45 h40) h40 fun v42 h43 =>
 popO (pickV v35 (Value.bool true) v42) fun v46 =>
 condV v46
 (popO (SemP PG (nilS t0)) fun v47 =>
 popO (SemP PG (Instr.fieldAt T_wire_Reader v47 0)) fun v48 =>
 CallsH PG id_wire_memory_Fail #[v48, (Value.int IntKind.i64 5)] h43 fun v49 h50 =>
 note_get_api_Item_k51 R n3 t0 t1 t2 t7 t8 v27 (Value.pointer (some ⟨r31, 0, none⟩)) h50)
 (note_get_api_Item_k51 R n3 t0 t1 t2 t7 t8 v27 (Value.pointer (some ⟨r31, 0, none⟩)) h43))
 (popO (SemP PG (nilS t0)) fun v62 =>
 popO (SemP PG (Instr.fieldAt T_wire_Reader v62 0)) fun v63 =>
 CallsH PG id_wire_memory_Err #[v63] h23 fun v64 h65 =>
 popO (SemE PG h65 (binS BinOp.neq T_api_Errno (.tmp 49) (.const (Value.int IntKind.i64 0)) v64 (Value.int IntKind.i64 0))) fun v66 =>
 condV v66
 (R (Value.slice none 0 0) h65)
 (R t7 h65))
def note_get_api_Item (t0 : Value) (t1 : Value) (t2 : Value) (h0 : PH) (R : Value → PH → Prop) : Prop :=
 CallsH PG id_wire_Reader_Byte #[t0] h0 fun v1 h2 =>
 LoopL [0, 1, 2, 7, 8] (fun n3 ρ h => note_get_api_Item_b4 R n3 (ρ 0) (ρ 1) (ρ 2) (ρ 7) (ρ 8) h) [t0, t1, t2, (Value.slice none 0 0), v1] h2
def note_get_api_Item.ann : Ann := { b := fun i => match i with  | _ => #[], ord := fun i => match i with  | _ => [], keep := fun i => match i with | 3 => [0, 1, 2, 7, 8] | _ => [], n := 52 }
theorem note_get_api_Item.eq (t0 : Value) (t1 : Value) (t2 : Value) (h0 : PH) (R : Value → PH → Prop) : codeF PG note_get_api_Item.ann 200 (bodyOf Tryz.f85) (endH PG Tryz.f85 R) (fun t => (#[t0, t1, t2] : Array Value).getD t undef) h0 = note_get_api_Item t0 t1 t2 h0 R := by kernel_rfl
theorem note_get_api_Item.call {t0 : Value} {t1 : Value} {t2 : Value} {h0 : PH} {R : Value → PH → Prop} (H : note_get_api_Item t0 t1 t2 h0 R) : CallsH PG id_note_get_api_Item #[t0, t1, t2] h0 R :=
  callsF_by note_get_api_Item.ann 200 mix Tryz.func85 (by kernel_rfl) (by kernel_rfl) (by kernel_rfl) (by kernel_rfl) (by simp [Tryz.ntmps85]) (note_get_api_Item.eq t0 t1 t2 h0 R) H

def packet_Get_k24 (R : Value → PH → Prop) (t0 : Value) (t2 : Value) (t3 : Value) (h0 : PH) : Prop :=
 popO (SemP PG (nilS t0)) fun v25 =>
 popO (SemP PG (Instr.fieldAt T_wire_Reader v25 0)) fun v26 =>
 CallsH PG id_wire_memory_Err #[v26] h0 fun v27 h28 =>
 popO (SemE PG h28 (binS BinOp.neq T_api_Errno (.tmp 23) (.const (Value.int IntKind.i64 0)) v27 (Value.int IntKind.i64 0))) fun v29 =>
 condV v29
 (popO (SemP PG (Instr.build T_api_Packet #[])) fun v30 =>
 SemH PG (storeS T_api_Packet t2 v30) h28 fun v31 h32 =>
 popO (SemE PG h32 (Instr.loadAt T_api_Packet t2)) fun v33 =>
 R v33 h32)
 (popO (SemE PG h28 (Instr.loadAt T_api_Packet t3)) fun v34 =>
 SemH PG (storeS T_api_Packet t2 v34) h28 fun v35 h36 =>
 popO (SemE PG h36 (Instr.loadAt T_api_Packet t2)) fun v37 =>
 R v37 h36)
def packet_Get (t0 : Value) (h0 : PH) (R : Value → PH → Prop) : Prop :=
 ∀ r1, h0 r1 = none → bindH (PH.set h0 r1 (.cells (zcells PG T_api_Packet) T_api_Packet)) fun h2 =>
 CallsH PG id_wire_Reader_Byte #[t0] h2 fun v3 h4 =>
 CallsH PG id_wire_Reader_Number #[t0] h4 fun v5 h6 =>
 CallsH PG id_wire_Reader_Number #[t0] h6 fun v7 h8 =>
 CallsH PG id_wire_Reader_Text #[t0] h8 fun v9 h10 =>
 popO (SemP PG (Instr.build T_api_Packet #[(0, v3), (1, v5), (2, v7), (3, v9)])) fun v11 =>
 ∀ r12, h10 r12 = none → bindH (PH.set h10 r12 (.cells (zcells PG T_api_Packet) T_api_Packet)) fun h13 =>
 SemH PG (storeS T_api_Packet (Value.pointer (some ⟨r12, 0, none⟩)) v11) h13 fun v14 h15 =>
 popO (SemE PG h15 (Instr.loadAt T_api_Packet (Value.pointer (some ⟨r12, 0, none⟩)))) fun v16 =>
 CallsH PG id_packet_Check #[v16] h15 fun v17 h18 =>
 popO (SemE PG h18 (binS BinOp.neq T_api_Errno (.tmp 14) (.const (Value.int IntKind.i64 0)) v17 (Value.int IntKind.i64 0))) fun v19 =>
 condV v19
 (popO (SemP PG (nilS t0)) fun v20 =>
 popO (SemP PG (Instr.fieldAt T_wire_Reader v20 0)) fun v21 =>
 CallsH PG id_wire_memory_Fail #[v21, (Value.int IntKind.i64 5)] h18 fun v22 h23 =>
 packet_Get_k24 R t0 (Value.pointer (some ⟨r1, 0, none⟩)) (Value.pointer (some ⟨r12, 0, none⟩)) h23)
 (packet_Get_k24 R t0 (Value.pointer (some ⟨r1, 0, none⟩)) (Value.pointer (some ⟨r12, 0, none⟩)) h18)
def packet_Get.ann : Ann := { b := fun i => match i with  | _ => #[], ord := fun i => match i with  | _ => [], keep := fun i => match i with  | _ => [], n := 27 }
theorem packet_Get.eq (t0 : Value) (h0 : PH) (R : Value → PH → Prop) : codeF PG packet_Get.ann 200 (bodyOf Tryz.f104) (endH PG Tryz.f104 R) (fun t => (#[t0] : Array Value).getD t undef) h0 = packet_Get t0 h0 R := by kernel_rfl
theorem packet_Get.call {t0 : Value} {h0 : PH} {R : Value → PH → Prop} (H : packet_Get t0 h0 R) : CallsH PG id_packet_Get #[t0] h0 R :=
  callsF_by packet_Get.ann 200 mix Tryz.func104 (by kernel_rfl) (by kernel_rfl) (by kernel_rfl) (by kernel_rfl) (by simp [Tryz.ntmps104]) (packet_Get.eq t0 h0 R) H

def wire_Reader_Text (t0 : Value) (h0 : PH) (R : Value → PH → Prop) : Prop :=
 CallsH PG id_wire_Reader_get #[t0, (Value.int IntKind.i64 2)] h0 fun v1 h2 =>
 popO (SemP PG (convert T_uint64 T_int v1)) fun v3 =>
 CallsH PG id_wire_Reader_Raw #[t0, v3] h2 fun v4 h5 =>
 R v4 h5
def wire_Reader_Text.ann : Ann := { b := fun i => match i with  | _ => #[], ord := fun i => match i with  | _ => [], keep := fun i => match i with  | _ => [], n := 8 }
theorem wire_Reader_Text.eq (t0 : Value) (h0 : PH) (R : Value → PH → Prop) : codeF PG wire_Reader_Text.ann 200 (bodyOf Tryz.f112) (endH PG Tryz.f112 R) (fun t => (#[t0] : Array Value).getD t undef) h0 = wire_Reader_Text t0 h0 R := by kernel_rfl
theorem wire_Reader_Text.call {t0 : Value} {h0 : PH} {R : Value → PH → Prop} (H : wire_Reader_Text t0 h0 R) : CallsH PG id_wire_Reader_Text #[t0] h0 R :=
  callsF_by wire_Reader_Text.ann 200 mix Tryz.func112 (by kernel_rfl) (by kernel_rfl) (by kernel_rfl) (by kernel_rfl) (by simp [Tryz.ntmps112]) (wire_Reader_Text.eq t0 h0 R) H

def note_Items_1 (t0 : Value) (t1 : Value) (h0 : PH) (R : Value → PH → Prop) : Prop :=
 ∀ r1, h0 r1 = none → bindH (PH.set h0 r1 (.cells (Value.cells t1) T_api_Packet)) fun h2 =>
 ∀ r3, h2 r3 = none → bindH (PH.set h2 r3 (.cells (zcells PG T_api_Item) T_api_Item)) fun h4 =>
 popO (SemE PG h4 (Instr.loadAt T_api_Packet (Value.pointer (some ⟨r1, 0, none⟩)))) fun v5 =>
 popO (SemP PG (Instr.build T_api_Item #[(0, v5), (1, t0)])) fun v6 =>
 SemH PG (storeS T_api_Item (Value.pointer (some ⟨r3, 0, none⟩)) v6) h4 fun v7 h8 =>
 popO (SemE PG h8 (Instr.loadAt T_api_Item (Value.pointer (some ⟨r3, 0, none⟩)))) fun v9 =>
 R v9 h8
def note_Items_1.ann : Ann := { b := fun i => match i with  | _ => #[], ord := fun i => match i with  | _ => [], keep := fun i => match i with  | _ => [], n := 8 }
theorem note_Items_1.eq (t0 : Value) (t1 : Value) (h0 : PH) (R : Value → PH → Prop) : codeF PG note_Items_1.ann 200 (bodyOf Tryz.f86) (endH PG Tryz.f86 R) (fun t => (#[t0, t1] : Array Value).getD t undef) h0 = note_Items_1 t0 t1 h0 R := by kernel_rfl
theorem note_Items_1.call {t0 : Value} {t1 : Value} {h0 : PH} {R : Value → PH → Prop} (H : note_Items_1 t0 t1 h0 R) : CallsH PG id_note_Items_1 #[t0, t1] h0 R :=
  callsF_by note_Items_1.ann 200 mix Tryz.func86 (by kernel_rfl) (by kernel_rfl) (by kernel_rfl) (by kernel_rfl) (by simp [Tryz.ntmps86]) (note_Items_1.eq t0 t1 h0 R) H

def note_Notes (t0 : Value) (h0 : PH) (R : Value → PH → Prop) : Prop :=
 CallsH PG id_note_get_api_Note #[t0, (Value.int IntKind.i64 4), (Value.func (Fn.func id_note_Notes_1) #[] #[])] h0 fun v1 h2 =>
 R v1 h2
def note_Notes.ann : Ann := { b := fun i => match i with  | _ => #[], ord := fun i => match i with  | _ => [], keep := fun i => match i with  | _ => [], n := 5 }
theorem note_Notes.eq (t0 : Value) (h0 : PH) (R : Value → PH → Prop) : codeF PG note_Notes.ann 200 (bodyOf Tryz.f66) (endH PG Tryz.f66 R) (fun t => (#[t0] : Array Value).getD t undef) h0 = note_Notes t0 h0 R := by kernel_rfl
theorem note_Notes.call {t0 : Value} {h0 : PH} {R : Value → PH → Prop} (H : note_Notes t0 h0 R) : CallsH PG id_note_Notes #[t0] h0 R :=
  callsF_by note_Notes.ann 200 mix Tryz.func66 (by kernel_rfl) (by kernel_rfl) (by kernel_rfl) (by kernel_rfl) (by simp [Tryz.ntmps66]) (note_Notes.eq t0 h0 R) H

def note_get_api_Note_k51 (R : Value → PH → Prop) (n3 : List Value → PH → Prop) (t0 : Value) (t1 : Value) (t2 : Value) (t7 : Value) (t8 : Value) (t9 : Value) (t10 : Value) (h0 : PH) : Prop :=
 popO (SemE PG h0 (Instr.loadAt T_api_Packet t10)) fun v52 =>
 callC PG t2 #[t9, v52] h0 fun v53 h54 =>
 popO (SemA PG (Instr.buildSlice T_sl_api_Note 1 #[(0, v53)])) fun x56 => ∀ r55, h54 r55 = none → popO (SemP PG (x56.2 r55)) fun v57 => bindH (PH.set h54 r55 x56.1) fun h58 =>
 SemH PG (Builtin.append_ #[T_sl_api_Note, T_sl_api_Note] T_sl_api_Note #[t7, v57]) h58 fun v59 h60 =>
 popO (SemP PG (binOp BinOp.sub T_int t8 (Value.int IntKind.i64 1))) fun v61 =>
 n3 [t0, t1, t2, v59, v61] h60
def note_get_api_Note_b4 (R : Value → PH → Prop) (n3 : List Value → PH → Prop) (t0 : Value) (t1 : Value) (t2 : Value) (t7 : Value) (t8 : Value) (h0 : PH) : Prop :=
 popO (SemP PG (binOp BinOp.gtr T_int t8 (Value.int IntKind.i64 0))) fun v5 =>
 gopV (yV v5) true (fun k8 => k8 t0 h0) h0 fun v6 h7 =>
 gopV (yV v5) true (fun k11 => popO (SemP PG (nilS v6)) fun v12 => k11 v12 h7) h7 fun v9 h10 =>
 gopV (yV v5) true (fun k15 => popO (SemP PG (Instr.fieldAt T_wire_Reader v9 0)) fun v16 => k15 v16 h10) h10 fun v13 h14 =>
 gopV (yV v5) true (fun k19 => CallsH PG id_wire_memory_Err #[v13] h14 fun v20 h21 => k19 v20 h21) h14 fun v17 h18 =>
 gopV (yV v5) true (fun k24 => popO (SemE PG h18 (binS BinOp.eql T_api_Errno (.tmp 19) (.const (Value.int IntKind.i64 0)) v17 (Value.int IntKind.i64 0))) fun v25 => k24 v25 h18) h18 fun v22 h23 =>
 popO (pickV v5 v22 (Value.bool false)) fun v26 =>
 condV v26
 (CallsH PG id_wire_Reader_Byte #[t0] h23 fun v27 h28 =>
 CallsH PG id_packet_Get #[t0] h28 fun v29 h30 =>
 ∀ r31, h30 r31 = none → bindH (PH.set h30 r31 (.cells (zcells PG T_api_Packet) T_api_Packet)) fun h32 =>
 SemH PG (storeS T_api_Packet (Value.pointer (some ⟨r31, 0, none⟩)) v29) h32 fun v33 h34 =>
 popO (SemP PG (binOp BinOp.lss T_int v27 (Value.int IntKind.i64 1))) fun v35 =>
 gopV (yV v35) false (fun k38 => k38 v27 h34) h34 fun v36 h37 =>
 gopV (yV v35) false (fun k41 => k41 t1 h37) h37 fun v39 h40 =>
 gopV (yV v35) false (fun k44 => popO (SemP PG (binOp BinOp.gtr T_int v36 v39)) fun v45 => k44 v45 h40) h40 fun v42 h43 =>
 popO (pickV v35 (Value.bool true) v42) fun v46 =>
 condV v46
 (popO (SemP PG (nilS t0)) fun v47 =>
 popO (SemP PG (Instr.fieldAt T_wire_Reader v47 0)) fun v48 =>
 CallsH PG id_wire_memory_Fail #[v48, (Value.int IntKind.i64 5)] h43 fun v49 h50 =>
 note_get_api_Note_k51 R n3 t0 t1 t2 t7 t8 v27 (Value.pointer (some ⟨r31, 0, none⟩)) h50)
 (note_get_api_Note_k51 R n3 t0 t1 t2 t7 t8 v27 (Value.pointer (some ⟨r31, 0, none⟩)) h43))
 (popO (SemP PG (nilS t0)) fun v62 =>
 popO (SemP PG (Instr.fieldAt T_wire_Reader v62 0)) fun v63 =>
 CallsH PG id_wire_memory_Err #[v63] h23 fun v64 h65 =>
 popO (SemE PG h65 (binS BinOp.neq T_api_Errno (.tmp 49) (.const (Value.int IntKind.i64 0)) v64 (Value.int IntKind.i64 0))) fun v66 =>
 condV v66
 (R (Value.slice none 0 0) h65)
 (R t7 h65))
def note_get_api_Note (t0 : Value) (t1 : Value) (t2 : Value) (h0 : PH) (R : Value → PH → Prop) : Prop :=
 CallsH PG id_wire_Reader_Byte #[t0] h0 fun v1 h2 =>
 LoopL [0, 1, 2, 7, 8] (fun n3 ρ h => note_get_api_Note_b4 R n3 (ρ 0) (ρ 1) (ρ 2) (ρ 7) (ρ 8) h) [t0, t1, t2, (Value.slice none 0 0), v1] h2
def note_get_api_Note.ann : Ann := { b := fun i => match i with  | _ => #[], ord := fun i => match i with  | _ => [], keep := fun i => match i with | 3 => [0, 1, 2, 7, 8] | _ => [], n := 52 }
theorem note_get_api_Note.eq (t0 : Value) (t1 : Value) (t2 : Value) (h0 : PH) (R : Value → PH → Prop) : codeF PG note_get_api_Note.ann 200 (bodyOf Tryz.f87) (endH PG Tryz.f87 R) (fun t => (#[t0, t1, t2] : Array Value).getD t undef) h0 = note_get_api_Note t0 t1 t2 h0 R := by kernel_rfl
theorem note_get_api_Note.call {t0 : Value} {t1 : Value} {t2 : Value} {h0 : PH} {R : Value → PH → Prop} (H : note_get_api_Note t0 t1 t2 h0 R) : CallsH PG id_note_get_api_Note #[t0, t1, t2] h0 R :=
  callsF_by note_get_api_Note.ann 200 mix Tryz.func87 (by kernel_rfl) (by kernel_rfl) (by kernel_rfl) (by kernel_rfl) (by simp [Tryz.ntmps87]) (note_get_api_Note.eq t0 t1 t2 h0 R) H

def note_Notes_1 (t0 : Value) (t1 : Value) (h0 : PH) (R : Value → PH → Prop) : Prop :=
 ∀ r1, h0 r1 = none → bindH (PH.set h0 r1 (.cells (Value.cells t1) T_api_Packet)) fun h2 =>
 ∀ r3, h2 r3 = none → bindH (PH.set h2 r3 (.cells (zcells PG T_api_Note) T_api_Note)) fun h4 =>
 popO (SemE PG h4 (Instr.loadAt T_api_Packet (Value.pointer (some ⟨r1, 0, none⟩)))) fun v5 =>
 popO (SemP PG (Instr.build T_api_Note #[(0, t0), (1, v5)])) fun v6 =>
 SemH PG (storeS T_api_Note (Value.pointer (some ⟨r3, 0, none⟩)) v6) h4 fun v7 h8 =>
 popO (SemE PG h8 (Instr.loadAt T_api_Note (Value.pointer (some ⟨r3, 0, none⟩)))) fun v9 =>
 R v9 h8
def note_Notes_1.ann : Ann := { b := fun i => match i with  | _ => #[], ord := fun i => match i with  | _ => [], keep := fun i => match i with  | _ => [], n := 8 }
theorem note_Notes_1.eq (t0 : Value) (t1 : Value) (h0 : PH) (R : Value → PH → Prop) : codeF PG note_Notes_1.ann 200 (bodyOf Tryz.f88) (endH PG Tryz.f88 R) (fun t => (#[t0, t1] : Array Value).getD t undef) h0 = note_Notes_1 t0 t1 h0 R := by kernel_rfl
theorem note_Notes_1.call {t0 : Value} {t1 : Value} {h0 : PH} {R : Value → PH → Prop} (H : note_Notes_1 t0 t1 h0 R) : CallsH PG id_note_Notes_1 #[t0, t1] h0 R :=
  callsF_by note_Notes_1.ann 200 mix Tryz.func88 (by kernel_rfl) (by kernel_rfl) (by kernel_rfl) (by kernel_rfl) (by simp [Tryz.ntmps88]) (note_Notes_1.eq t0 t1 h0 R) H

def wire_Reader_End (t0 : Value) (h0 : PH) (R : Value → PH → Prop) : Prop :=
 CallsH PG id_wire_Reader_Left #[t0] h0 fun v1 h2 =>
 popO (SemP PG (binOp BinOp.gtr T_int v1 (Value.int IntKind.i64 0))) fun v3 =>
 condV v3
 (R (Value.int IntKind.i64 7) h2)
 (popO (SemP PG (nilS t0)) fun v4 =>
 popO (SemP PG (Instr.fieldAt T_wire_Reader v4 0)) fun v5 =>
 CallsH PG id_wire_memory_Err #[v5] h2 fun v6 h7 =>
 R v6 h7)
def wire_Reader_End.ann : Ann := { b := fun i => match i with  | _ => #[], ord := fun i => match i with  | _ => [], keep := fun i => match i with  | _ => [], n := 10 }
theorem wire_Reader_End.eq (t0 : Value) (h0 : PH) (R : Value → PH → Prop) : codeF PG wire_Reader_End.ann 200 (bodyOf Tryz.f67) (endH PG Tryz.f67 R) (fun t => (#[t0] : Array Value).getD t undef) h0 = wire_Reader_End t0 h0 R := by kernel_rfl
theorem wire_Reader_End.call {t0 : Value} {h0 : PH} {R : Value → PH → Prop} (H : wire_Reader_End t0 h0 R) : CallsH PG id_wire_Reader_End #[t0] h0 R :=
  callsF_by wire_Reader_End.ann 200 mix Tryz.func67 (by kernel_rfl) (by kernel_rfl) (by kernel_rfl) (by kernel_rfl) (by simp [Tryz.ntmps67]) (wire_Reader_End.eq t0 h0 R) H

def wire_Reader_Left (t0 : Value) (h0 : PH) (R : Value → PH → Prop) : Prop :=
 popO (SemP PG (nilS t0)) fun v1 =>
 popO (SemP PG (Instr.fieldAt T_wire_Reader v1 0)) fun v2 =>
 CallsH PG id_wire_memory_Err #[v2] h0 fun v3 h4 =>
 popO (SemE PG h4 (binS BinOp.neq T_api_Errno (.tmp 6) (.const (Value.int IntKind.i64 0)) v3 (Value.int IntKind.i64 0))) fun v5 =>
 condV v5
 (R (Value.int IntKind.i64 0) h4)
 (popO (SemP PG (nilS t0)) fun v6 =>
 popO (SemP PG (Instr.fieldAt T_wire_Reader v6 1)) fun v7 =>
 popO (SemE PG h4 (Instr.loadAt T_string v7)) fun v8 =>
 popO (SemP PG (Builtin.len_ #[T_string] T_int #[v8])) fun v9 =>
 R v9 h4)
def wire_Reader_Left.ann : Ann := { b := fun i => match i with  | _ => #[], ord := fun i => match i with  | _ => [], keep := fun i => match i with  | _ => [], n := 13 }
theorem wire_Reader_Left.eq (t0 : Value) (h0 : PH) (R : Value → PH → Prop) : codeF PG wire_Reader_Left.ann 200 (bodyOf Tryz.f89) (endH PG Tryz.f89 R) (fun t => (#[t0] : Array Value).getD t undef) h0 = wire_Reader_Left t0 h0 R := by kernel_rfl
theorem wire_Reader_Left.call {t0 : Value} {h0 : PH} {R : Value → PH → Prop} (H : wire_Reader_Left t0 h0 R) : CallsH PG id_wire_Reader_Left #[t0] h0 R :=
  callsF_by wire_Reader_Left.ann 200 mix Tryz.func89 (by kernel_rfl) (by kernel_rfl) (by kernel_rfl) (by kernel_rfl) (by simp [Tryz.ntmps89]) (wire_Reader_Left.eq t0 h0 R) H

def record_Replay_1_k26 (R : Value → PH → Prop) (t1 : Value) (t6 : Value) (h0 : PH) : Prop :=
 SemH PG (storeS T_api_Errno t1 t6) h0 fun v27 h28 =>
 R (Value.tuple #[]) h28
def record_Replay_1_k15 (R : Value → PH → Prop) (t1 : Value) (t2 : Value) (t3 : Value) (t5 : Value) (t6 : Value) (h0 : PH) : Prop :=
 popO (SemE PG h0 (binS BinOp.eql T_api_Errno (.tmp 16) (.const (Value.int IntKind.i64 0)) t6 (Value.int IntKind.i64 0))) fun v16 =>
 condV v16
 (popO (SemE PG h0 (Instr.loadAt T_api_Daemon t2)) fun v17 =>
 popO (SemE PG h0 (Instr.loadAt T_int t3)) fun v18 =>
 popO (SemE PG h0 (Instr.loadAt T_api_Record t5)) fun v19 =>
 CallsH PG id_record_Step #[v17, v18, v19] h0 fun v20 h21 =>
 popO (SemP PG (Instr.extract v20 0)) fun v22 =>
 popO (SemP PG (Instr.extract v20 1)) fun v23 =>
 SemH PG (storeS T_api_Daemon t2 v22) h21 fun v24 h25 =>
 record_Replay_1_k26 R t1 v23 h25)
 (record_Replay_1_k26 R t1 t6 h0)
def record_Replay_1 (t0 : Value) (t1 : Value) (t2 : Value) (t3 : Value) (h0 : PH) (R : Value → PH → Prop) : Prop :=
 popO (SemP PG (Instr.build T_api_Record #[])) fun v1 =>
 popO (SemE PG h0 (Instr.loadAt T_api_Errno t1)) fun v2 =>
 ∀ r3, h0 r3 = none → bindH (PH.set h0 r3 (.cells (zcells PG T_api_Record) T_api_Record)) fun h4 =>
 SemH PG (storeS T_api_Record (Value.pointer (some ⟨r3, 0, none⟩)) v1) h4 fun v5 h6 =>
 SemE PG h6 (Instr.loadAt T_api_Errno t1) = some v2 ∧ (popO (SemE PG h6 (Instr.loadAt T_api_Errno t1)) fun v7 =>
 popO (SemE PG h6 (binS BinOp.eql T_api_Errno (.tmp 9) (.const (Value.int IntKind.i64 0)) v7 (Value.int IntKind.i64 0))) fun v8 =>
 condV v8
 (CallsH PG id_record_Parse #[t0] h6 fun v9 h10 =>
 popO (SemP PG (Instr.extract v9 0)) fun v11 =>
 popO (SemP PG (Instr.extract v9 1)) fun v12 =>
 SemH PG (storeS T_api_Record (Value.pointer (some ⟨r3, 0, none⟩)) v11) h10 fun v13 h14 =>
 record_Replay_1_k15 R t1 t2 t3 (Value.pointer (some ⟨r3, 0, none⟩)) v12 h14)
 (record_Replay_1_k15 R t1 t2 t3 (Value.pointer (some ⟨r3, 0, none⟩)) v2 h6))
def record_Replay_1.ann : Ann := { b := fun i => match i with | 0 => #[0, 0, 0, 5, 15] | _ => #[], ord := fun i => match i with | 0 => [0, 1, 2, 3, 4] | _ => [], keep := fun i => match i with  | _ => [], n := 26 }
theorem record_Replay_1.eq (t0 : Value) (t1 : Value) (t2 : Value) (t3 : Value) (h0 : PH) (R : Value → PH → Prop) : codeF PG record_Replay_1.ann 200 (bodyOf Tryz.f31) (endH PG Tryz.f31 R) (fun t => (#[t0, t1, t2, t3] : Array Value).getD t undef) h0 = record_Replay_1 t0 t1 t2 t3 h0 R := by kernel_rfl
theorem record_Replay_1.call {t0 : Value} {t1 : Value} {t2 : Value} {t3 : Value} {h0 : PH} {R : Value → PH → Prop} (H : record_Replay_1 t0 t1 t2 t3 h0 R) : CallsH PG id_record_Replay_1 #[t0, t1, t2, t3] h0 R :=
  callsF_by record_Replay_1.ann 200 mix Tryz.func31 (by kernel_rfl) (by kernel_rfl) (by kernel_rfl) (by kernel_rfl) (by simp [Tryz.ntmps31]) (record_Replay_1.eq t0 t1 t2 t3 h0 R) H

def record_Step (t0 : Value) (t1 : Value) (t2 : Value) (h0 : PH) (R : Value → PH → Prop) : Prop :=
 ∀ r1, h0 r1 = none → bindH (PH.set h0 r1 (.cells (Value.cells t0) T_api_Daemon)) fun h2 =>
 ∀ r3, h2 r3 = none → bindH (PH.set h2 r3 (.cells (Value.cells t2) T_api_Record)) fun h4 =>
 ∀ r5, h4 r5 = none → bindH (PH.set h4 r5 (.cells (zcells PG T_api_Daemon) T_api_Daemon)) fun h6 =>
 popO (SemE PG h6 (Instr.loadAt T_api_Daemon (Value.pointer (some ⟨r1, 0, none⟩)))) fun v7 =>
 CallsH PG id_record_Check #[v7, t1] h6 fun v8 h9 =>
 popO (SemE PG h9 (binS BinOp.neq T_api_Errno (.tmp 19) (.const (Value.int IntKind.i64 0)) v8 (Value.int IntKind.i64 0))) fun v10 =>
 condV v10
 (popO (SemP PG (Instr.build T_api_Daemon #[])) fun v11 =>
 SemH PG (storeS T_api_Daemon (Value.pointer (some ⟨r5, 0, none⟩)) v11) h9 fun v12 h13 =>
 popO (SemE PG h13 (Instr.loadAt T_api_Daemon (Value.pointer (some ⟨r5, 0, none⟩)))) fun v14 =>
 R (Value.tuple #[v14, v8]) h13)
 (popO (SemE PG h9 (Instr.loadAt T_api_Record (Value.pointer (some ⟨r3, 0, none⟩)))) fun v15 =>
 CallsH PG id_record_Bytes #[v15] h9 fun v16 h17 =>
 popO (SemP PG (Instr.extract v16 0)) fun v18 =>
 popO (SemP PG (Instr.extract v16 1)) fun v19 =>
 popO (SemE PG h17 (binS BinOp.neq T_api_Errno (.tmp 28) (.const (Value.int IntKind.i64 0)) v19 (Value.int IntKind.i64 0))) fun v20 =>
 condV v20
 (popO (SemP PG (Instr.build T_api_Daemon #[])) fun v21 =>
 SemH PG (storeS T_api_Daemon (Value.pointer (some ⟨r5, 0, none⟩)) v21) h17 fun v22 h23 =>
 popO (SemE PG h23 (Instr.loadAt T_api_Daemon (Value.pointer (some ⟨r5, 0, none⟩)))) fun v24 =>
 R (Value.tuple #[v24, v19]) h23)
 (popO (SemP PG (Instr.fieldAt T_api_Record (Value.pointer (some ⟨r3, 0, none⟩)) 0)) fun v25 =>
 popO (SemE PG h17 (Instr.loadAt T_int v25)) fun v26 =>
 popO (SemE PG h17 (binS BinOp.eql T_int (.tmp 33) (.const (Value.int IntKind.i64 1)) v26 (Value.int IntKind.i64 1))) fun v27 =>
 condV v27
 (popO (SemP PG (Instr.fieldAt T_api_Record (Value.pointer (some ⟨r3, 0, none⟩)) 1)) fun v28 =>
 popO (SemE PG h17 (Instr.loadAt T_api_Daemon v28)) fun v29 =>
 CallsH PG id_record_Check #[v29, t1] h17 fun v30 h31 =>
 popO (SemE PG h31 (binS BinOp.neq T_api_Errno (.tmp 39) (.const (Value.int IntKind.i64 0)) v30 (Value.int IntKind.i64 0))) fun v32 =>
 condV v32
 (popO (SemP PG (Instr.build T_api_Daemon #[])) fun v33 =>
 SemH PG (storeS T_api_Daemon (Value.pointer (some ⟨r5, 0, none⟩)) v33) h31 fun v34 h35 =>
 popO (SemE PG h35 (Instr.loadAt T_api_Daemon (Value.pointer (some ⟨r5, 0, none⟩)))) fun v36 =>
 R (Value.tuple #[v36, v30]) h35)
 (popO (SemP PG (Instr.fieldAt T_api_Record (Value.pointer (some ⟨r3, 0, none⟩)) 1)) fun v37 =>
 popO (SemP PG (Instr.fieldAt T_api_Daemon v37 1)) fun v38 =>
 popO (SemE PG h31 (Instr.loadAt T_sl_api_Item v38)) fun v39 =>
 CallsH PG id_slices_Clone_sl_api_Item_api_Item #[v39] h31 fun v40 h41 =>
 popO (SemP PG (Instr.fieldAt T_api_Record (Value.pointer (some ⟨r3, 0, none⟩)) 1)) fun v42 =>
 popO (SemP PG (Instr.fieldAt T_api_Daemon v42 1)) fun v43 =>
 SemH PG (storeS T_sl_api_Item v43 v40) h41 fun v44 h45 =>
 popO (SemP PG (Instr.fieldAt T_api_Record (Value.pointer (some ⟨r3, 0, none⟩)) 1)) fun v46 =>
 popO (SemE PG h45 (Instr.loadAt T_api_Daemon v46)) fun v47 =>
 SemH PG (storeS T_api_Daemon (Value.pointer (some ⟨r5, 0, none⟩)) v47) h45 fun v48 h49 =>
 popO (SemE PG h49 (Instr.loadAt T_api_Daemon (Value.pointer (some ⟨r5, 0, none⟩)))) fun v50 =>
 R (Value.tuple #[v50, (Value.int IntKind.i64 0)]) h49))
 (popO (SemP PG (Instr.fieldAt T_api_Daemon (Value.pointer (some ⟨r1, 0, none⟩)) 1)) fun v51 =>
 popO (SemE PG h17 (Instr.loadAt T_sl_api_Item v51)) fun v52 =>
 CallsH PG id_table_Of #[t1, v52] h17 fun v53 h54 =>
 popO (SemP PG (Instr.extract v53 0)) fun v55 =>
 popO (SemP PG (Instr.extract v53 1)) fun v56 =>
 popO (SemP PG (Instr.fieldAt T_api_Record (Value.pointer (some ⟨r3, 0, none⟩)) 4)) fun v57 =>
 popO (SemE PG h54 (Instr.loadAt T_sl_api_Note v57)) fun v58 =>
 CallsH PG id_scan_Apply #[v55, v58] h54 fun v59 h60 =>
 popO (SemP PG (Instr.extract v59 0)) fun v61 =>
 popO (SemP PG (Instr.extract v59 1)) fun v62 =>
 popO (SemE PG h60 (binS BinOp.neq T_api_Errno (.tmp 65) (.const (Value.int IntKind.i64 0)) v62 (Value.int IntKind.i64 0))) fun v63 =>
 condV v63
 (popO (SemP PG (Instr.build T_api_Daemon #[])) fun v64 =>
 SemH PG (storeS T_api_Daemon (Value.pointer (some ⟨r5, 0, none⟩)) v64) h60 fun v65 h66 =>
 popO (SemE PG h66 (Instr.loadAt T_api_Daemon (Value.pointer (some ⟨r5, 0, none⟩)))) fun v67 =>
 R (Value.tuple #[v67, v62]) h66)
 (CallsH PG id_table_Table_Items #[v55] h60 fun v68 h69 =>
 popO (SemP PG (Instr.fieldAt T_api_Daemon (Value.pointer (some ⟨r1, 0, none⟩)) 1)) fun v70 =>
 SemH PG (storeS T_sl_api_Item v70 v68) h69 fun v71 h72 =>
 popO (SemP PG (Instr.fieldAt T_api_Record (Value.pointer (some ⟨r3, 0, none⟩)) 2)) fun v73 =>
 popO (SemE PG h72 (Instr.loadAt T_int v73)) fun v74 =>
 popO (SemP PG (Instr.fieldAt T_api_Record (Value.pointer (some ⟨r3, 0, none⟩)) 3)) fun v75 =>
 popO (SemE PG h72 (Instr.loadAt T_api_Place v75)) fun v76 =>
 popO (SemP PG (Instr.fieldAt T_api_Daemon (Value.pointer (some ⟨r1, 0, none⟩)) 0)) fun v77 =>
 popO (SemP PG (Instr.indexAt T_2_api_Place v77 v74)) fun v78 =>
 SemH PG (storeS T_api_Place v78 v76) h72 fun v79 h80 =>
 popO (SemE PG h80 (Instr.loadAt T_api_Daemon (Value.pointer (some ⟨r1, 0, none⟩)))) fun v81 =>
 SemH PG (storeS T_api_Daemon (Value.pointer (some ⟨r5, 0, none⟩)) v81) h80 fun v82 h83 =>
 popO (SemE PG h83 (Instr.loadAt T_api_Daemon (Value.pointer (some ⟨r5, 0, none⟩)))) fun v84 =>
 R (Value.tuple #[v84, (Value.int IntKind.i64 0)]) h83))))
def record_Step.ann : Ann := { b := fun i => match i with  | _ => #[], ord := fun i => match i with  | _ => [], keep := fun i => match i with  | _ => [], n := 79 }
theorem record_Step.eq (t0 : Value) (t1 : Value) (t2 : Value) (h0 : PH) (R : Value → PH → Prop) : codeF PG record_Step.ann 200 (bodyOf Tryz.f6) (endH PG Tryz.f6 R) (fun t => (#[t0, t1, t2] : Array Value).getD t undef) h0 = record_Step t0 t1 t2 h0 R := by kernel_rfl
theorem record_Step.call {t0 : Value} {t1 : Value} {t2 : Value} {h0 : PH} {R : Value → PH → Prop} (H : record_Step t0 t1 t2 h0 R) : CallsH PG id_record_Step #[t0, t1, t2] h0 R :=
  callsF_by record_Step.ann 200 mix Tryz.func6 (by kernel_rfl) (by kernel_rfl) (by kernel_rfl) (by kernel_rfl) (by simp [Tryz.ntmps6]) (record_Step.eq t0 t1 t2 h0 R) H

def slices_Clone_sl_api_Item_api_Item (t0 : Value) (h0 : PH) (R : Value → PH → Prop) : Prop :=
 popO (SemE PG h0 (binS BinOp.eql T_sl_api_Item (.tmp 3) (.const (Value.slice none 0 0)) t0 (Value.slice none 0 0))) fun v1 =>
 condV v1
 (R (Value.slice none 0 0) h0)
 (popO (SemA PG (Instr.buildSlice T_sl_api_Item 0 #[])) fun x3 => ∀ r2, h0 r2 = none → popO (SemP PG (x3.2 r2)) fun v4 => bindH (PH.set h0 r2 x3.1) fun h5 =>
 SemH PG (Builtin.append_ #[T_sl_api_Item, T_sl_api_Item] T_sl_api_Item #[v4, t0]) h5 fun v6 h7 =>
 R v6 h7)
def slices_Clone_sl_api_Item_api_Item.ann : Ann := { b := fun i => match i with  | _ => #[], ord := fun i => match i with  | _ => [], keep := fun i => match i with  | _ => [], n := 8 }
theorem slices_Clone_sl_api_Item_api_Item.eq (t0 : Value) (h0 : PH) (R : Value → PH → Prop) : codeF PG slices_Clone_sl_api_Item_api_Item.ann 200 (bodyOf Tryz.f13) (endH PG Tryz.f13 R) (fun t => (#[t0] : Array Value).getD t undef) h0 = slices_Clone_sl_api_Item_api_Item t0 h0 R := by kernel_rfl
theorem slices_Clone_sl_api_Item_api_Item.call {t0 : Value} {h0 : PH} {R : Value → PH → Prop} (H : slices_Clone_sl_api_Item_api_Item t0 h0 R) : CallsH PG id_slices_Clone_sl_api_Item_api_Item #[t0] h0 R :=
  callsF_by slices_Clone_sl_api_Item_api_Item.ann 200 mix Tryz.func13 (by kernel_rfl) (by kernel_rfl) (by kernel_rfl) (by kernel_rfl) (by simp [Tryz.ntmps13]) (slices_Clone_sl_api_Item_api_Item.eq t0 h0 R) H

def scan_Apply_b3 (R : Value → PH → Prop) (n2 : List Value → PH → Prop) (t0 : Value) (t1 : Value) (t9 : Value) (t10 : Value) (t11 : Value) (h0 : PH) : Prop :=
 popO (SemP PG (binOp BinOp.lss T_int t11 t10)) fun v4 =>
 condV v4
 (popO (SemP PG (Instr.indexAt T_sl_api_Note t9 t11)) fun v5 =>
 popO (SemE PG h0 (Instr.loadAt T_api_Note v5)) fun v6 =>
 ∀ r7, h0 r7 = none → bindH (PH.set h0 r7 (.cells (zcells PG T_api_Note) T_api_Note)) fun h8 =>
 SemH PG (storeS T_api_Note (Value.pointer (some ⟨r7, 0, none⟩)) v6) h8 fun v9 h10 =>
 popO (SemE PG h10 (Instr.loadAt T_api_Note (Value.pointer (some ⟨r7, 0, none⟩)))) fun v11 =>
 CallsH PG id_table_Table_Apply #[t0, v11] h10 fun v12 h13 =>
 popO (SemE PG h13 (binS BinOp.neq T_api_Errno (.tmp 19) (.const (Value.int IntKind.i64 0)) v12 (Value.int IntKind.i64 0))) fun v14 =>
 condV v14
 (R (Value.tuple #[t11, v12]) h13)
 (popO (SemP PG (binOp BinOp.add T_int t11 (Value.int IntKind.i64 1))) fun v15 =>
 n2 [t0, t1, t9, t10, v15] h13))
 (popO (SemP PG (Builtin.len_ #[T_sl_api_Note] T_int #[t1])) fun v16 =>
 R (Value.tuple #[v16, (Value.int IntKind.i64 0)]) h0)
def scan_Apply (t0 : Value) (t1 : Value) (h0 : PH) (R : Value → PH → Prop) : Prop :=
 popO (SemP PG (Builtin.len_ #[T_sl_api_Note] T_int #[t1])) fun v1 =>
 LoopL [0, 1, 9, 10, 11] (fun n2 ρ h => scan_Apply_b3 R n2 (ρ 0) (ρ 1) (ρ 9) (ρ 10) (ρ 11) h) [t0, t1, t1, v1, (Value.int IntKind.i64 0)] h0
def scan_Apply.ann : Ann := { b := fun i => match i with  | _ => #[], ord := fun i => match i with  | _ => [], keep := fun i => match i with | 2 => [0, 1, 9, 10, 11] | _ => [], n := 26 }
theorem scan_Apply.eq (t0 : Value) (t1 : Value) (h0 : PH) (R : Value → PH → Prop) : codeF PG scan_Apply.ann 200 (bodyOf Tryz.f15) (endH PG Tryz.f15 R) (fun t => (#[t0, t1] : Array Value).getD t undef) h0 = scan_Apply t0 t1 h0 R := by kernel_rfl
theorem scan_Apply.call {t0 : Value} {t1 : Value} {h0 : PH} {R : Value → PH → Prop} (H : scan_Apply t0 t1 h0 R) : CallsH PG id_scan_Apply #[t0, t1] h0 R :=
  callsF_by scan_Apply.ann 200 mix Tryz.func15 (by kernel_rfl) (by kernel_rfl) (by kernel_rfl) (by kernel_rfl) (by simp [Tryz.ntmps15]) (scan_Apply.eq t0 t1 h0 R) H

def table_Table_Apply (t0 : Value) (t1 : Value) (h0 : PH) (R : Value → PH → Prop) : Prop :=
 ∀ r1, h0 r1 = none → bindH (PH.set h0 r1 (.cells (Value.cells t1) T_api_Note)) fun h2 =>
 popO (SemE PG h2 (Instr.loadAt T_api_Note (Value.pointer (some ⟨r1, 0, none⟩)))) fun v3 =>
 CallsH PG id_note_Check #[v3] h2 fun v4 h5 =>
 popO (SemE PG h5 (binS BinOp.neq T_api_Errno (.tmp 9) (.const (Value.int IntKind.i64 0)) v4 (Value.int IntKind.i64 0))) fun v6 =>
 condV v6
 (R v4 h5)
 (popO (SemP PG (Instr.build T_5_functable_Table_table_id_api_Packet_api_Errno #[(1, (Value.func (Fn.func id_table_Table_sent) #[] #[])), (2, (Value.func (Fn.func id_table_Table_received) #[] #[])), (3, (Value.func (Fn.func id_table_Table_over) #[] #[])), (4, (Value.func (Fn.func id_table_Table_over) #[] #[]))])) fun v7 =>
 ∀ r8, h5 r8 = none → bindH (PH.set h5 r8 (.cells (zcells PG T_5_functable_Table_table_id_api_Packet_api_Errno) T_5_functable_Table_table_id_api_Packet_api_Errno)) fun h9 =>
 SemH PG (storeS T_5_functable_Table_table_id_api_Packet_api_Errno (Value.pointer (some ⟨r8, 0, none⟩)) v7) h9 fun v10 h11 =>
 popO (SemP PG (Instr.fieldAt T_api_Note (Value.pointer (some ⟨r1, 0, none⟩)) 0)) fun v12 =>
 popO (SemE PG h11 (Instr.loadAt T_int v12)) fun v13 =>
 popO (SemP PG (Instr.indexAt T_5_functable_Table_table_id_api_Packet_api_Errno (Value.pointer (some ⟨r8, 0, none⟩)) v13)) fun v14 =>
 popO (SemE PG h11 (Instr.loadAt T_functable_Table_table_id_api_Packet_api_Errno v14)) fun v15 =>
 popO (SemP PG (Instr.fieldAt T_api_Note (Value.pointer (some ⟨r1, 0, none⟩)) 1)) fun v16 =>
 popO (SemP PG (Instr.fieldAt T_api_Packet v16 0)) fun v17 =>
 popO (SemE PG h11 (Instr.loadAt T_int v17)) fun v18 =>
 popO (SemP PG (Instr.fieldAt T_api_Note (Value.pointer (some ⟨r1, 0, none⟩)) 1)) fun v19 =>
 popO (SemP PG (Instr.fieldAt T_api_Packet v19 1)) fun v20 =>
 popO (SemE PG h11 (Instr.loadAt T_uint64 v20)) fun v21 =>
 popO (SemP PG (Instr.build T_table_id #[(0, v18), (1, v21)])) fun v22 =>
 popO (SemP PG (Instr.fieldAt T_api_Note (Value.pointer (some ⟨r1, 0, none⟩)) 1)) fun v23 =>
 popO (SemE PG h11 (Instr.loadAt T_api_Packet v23)) fun v24 =>
 callC PG v15 #[t0, v22, v24] h11 fun v25 h26 =>
 (R v25 h26))
def table_Table_Apply.ann : Ann := { b := fun i => match i with | 5 => #[0, 1, 3, 7, 0, 0, 32, 96, 0, 256, 768, 2016, 0, 4096, 16383, 32767] | _ => #[], ord := fun i => match i with | 5 => [0, 1, 2, 3, 4, 5, 6, 7, 8, 9, 10, 11, 12, 13, 14, 15] | _ => [], keep := fun i => match i with  | _ => [], n := 28 }
theorem table_Table_Apply.eq (t0 : Value) (t1 : Value) (h0 : PH) (R : Value → PH → Prop) : codeF PG table_Table_Apply.ann 200 (bodyOf Tryz.f35) (endH PG Tryz.f35 R) (fun t => (#[t0, t1] : Array Value).getD t undef) h0 = table_Table_Apply t0 t1 h0 R := by kernel_rfl
theorem table_Table_Apply.call {t0 : Value} {t1 : Value} {h0 : PH} {R : Value → PH → Prop} (H : table_Table_Apply t0 t1 h0 R) : CallsH PG id_table_Table_Apply #[t0, t1] h0 R :=
  callsF_by table_Table_Apply.ann 200 mix Tryz.func35 (by kernel_rfl) (by kernel_rfl) (by kernel_rfl) (by kernel_rfl) (by simp [Tryz.ntmps35]) (table_Table_Apply.eq t0 t1 h0 R) H

def note_Check (t0 : Value) (h0 : PH) (R : Value → PH → Prop) : Prop :=
 ∀ r1, h0 r1 = none → bindH (PH.set h0 r1 (.cells (Value.cells t0) T_api_Note)) fun h2 =>
 popO (SemP PG (Instr.fieldAt T_api_Note (Value.pointer (some ⟨r1, 0, none⟩)) 0)) fun v3 =>
 popO (SemE PG h2 (Instr.loadAt T_int v3)) fun v4 =>
 popO (SemP PG (binOp BinOp.lss T_int v4 (Value.int IntKind.i64 1))) fun v5 =>
 gopV (yV v5) false (fun k8 => popO (SemP PG (Instr.fieldAt T_api_Note (Value.pointer (some ⟨r1, 0, none⟩)) 0)) fun v9 => k8 v9 h2) h2 fun v6 h7 =>
 gopV (yV v5) false (fun k12 => popO (SemE PG h7 (Instr.loadAt T_int v6)) fun v13 => k12 v13 h7) h7 fun v10 h11 =>
 gopV (yV v5) false (fun k16 => popO (SemP PG (binOp BinOp.gtr T_int v10 (Value.int IntKind.i64 4))) fun v17 => k16 v17 h11) h11 fun v14 h15 =>
 popO (pickV v5 (Value.bool true) v14) fun v18 =>
 condV v18
 (R (Value.int IntKind.i64 1) h15)
 (popO (SemP PG (Instr.fieldAt T_api_Note (Value.pointer (some ⟨r1, 0, none⟩)) 1)) fun v19 =>
 popO (SemE PG h15 (Instr.loadAt T_api_Packet v19)) fun v20 =>
 CallsH PG id_packet_Check #[v20] h15 fun v21 h22 =>
 R v21 h22)
def note_Check.ann : Ann := { b := fun i => match i with  | _ => #[], ord := fun i => match i with  | _ => [], keep := fun i => match i with  | _ => [], n := 14 }
theorem note_Check.eq (t0 : Value) (h0 : PH) (R : Value → PH → Prop) : codeF PG note_Check.ann 200 (bodyOf Tryz.f68) (endH PG Tryz.f68 R) (fun t => (#[t0] : Array Value).getD t undef) h0 = note_Check t0 h0 R := by kernel_rfl
theorem note_Check.call {t0 : Value} {h0 : PH} {R : Value → PH → Prop} (H : note_Check t0 h0 R) : CallsH PG id_note_Check #[t0] h0 R :=
  callsF_by note_Check.ann 200 mix Tryz.func68 (by kernel_rfl) (by kernel_rfl) (by kernel_rfl) (by kernel_rfl) (by simp [Tryz.ntmps68]) (note_Check.eq t0 h0 R) H

def table_Table_sent (t0 : Value) (t1 : Value) (t2 : Value) (h0 : PH) (R : Value → PH → Prop) : Prop :=
 ∀ r1, h0 r1 = none → bindH (PH.set h0 r1 (.cells (Value.cells t1) T_table_id)) fun h2 =>
 ∀ r3, h2 r3 = none → bindH (PH.set h2 r3 (.cells (Value.cells t2) T_api_Packet)) fun h4 =>
 popO (SemP PG (nilS t0)) fun v5 =>
 popO (SemP PG (Instr.fieldAt T_table_Table v5 0)) fun v6 =>
 popO (SemE PG h4 (Instr.loadAt T_map_table_id_api_Item v6)) fun v7 =>
 popO (SemE PG h4 (Instr.loadAt T_table_id (Value.pointer (some ⟨r1, 0, none⟩)))) fun v8 =>
 popO (SemE PG h4 (Instr.lookup T_map_table_id_api_Item v7 v8 true)) fun v9 =>
 popO (SemP PG (Instr.extract v9 0)) fun v10 =>
 popO (SemP PG (Instr.extract v9 1)) fun v11 =>
 ∀ r12, h4 r12 = none → bindH (PH.set h4 r12 (.cells (zcells PG T_api_Item) T_api_Item)) fun h13 =>
 SemH PG (storeS T_api_Item (Value.pointer (some ⟨r12, 0, none⟩)) v10) h13 fun v14 h15 =>
 (condV v11
 (R (Value.int IntKind.i64 0) h15)
 (popO (SemE PG h15 (Instr.loadAt T_table_id (Value.pointer (some ⟨r1, 0, none⟩)))) fun v16 =>
 popO (SemE PG h15 (Instr.loadAt T_api_Packet (Value.pointer (some ⟨r3, 0, none⟩)))) fun v17 =>
 popO (SemP PG (Instr.build T_api_Item #[(0, v17), (1, (Value.int IntKind.i64 1))])) fun v18 =>
 CallsH PG id_table_Table_put #[t0, v16, v18] h15 fun v19 h20 =>
 R v19 h20))
def table_Table_sent.ann : Ann := { b := fun i => match i with | 1 => #[0, 1, 3, 7, 0, 31, 63, 127, 127, 0, 767, 2047] | _ => #[], ord := fun i => match i with | 1 => [0, 1, 2, 3, 4, 5, 6, 7, 8, 9, 10, 11] | _ => [], keep := fun i => match i with  | _ => [], n := 24 }
theorem table_Table_sent.eq (t0 : Value) (t1 : Value) (t2 : Value) (h0 : PH) (R : Value → PH → Prop) : codeF PG table_Table_sent.ann 200 (bodyOf Tryz.f69) (endH PG Tryz.f69 R) (fun t => (#[t0, t1, t2] : Array Value).getD t undef) h0 = table_Table_sent t0 t1 t2 h0 R := by kernel_rfl
theorem table_Table_sent.call {t0 : Value} {t1 : Value} {t2 : Value} {h0 : PH} {R : Value → PH → Prop} (H : table_Table_sent t0 t1 t2 h0 R) : CallsH PG id_table_Table_sent #[t0, t1, t2] h0 R :=
  callsF_by table_Table_sent.ann 200 mix Tryz.func69 (by kernel_rfl) (by kernel_rfl) (by kernel_rfl) (by kernel_rfl) (by simp [Tryz.ntmps69]) (table_Table_sent.eq t0 t1 t2 h0 R) H

def table_Table_put (t0 : Value) (t1 : Value) (t2 : Value) (h0 : PH) (R : Value → PH → Prop) : Prop :=
 ∀ r1, h0 r1 = none → bindH (PH.set h0 r1 (.cells (Value.cells t1) T_table_id)) fun h2 =>
 ∀ r3, h2 r3 = none → bindH (PH.set h2 r3 (.cells (Value.cells t2) T_api_Item)) fun h4 =>
 popO (SemP PG (nilS t0)) fun v5 =>
 popO (SemP PG (Instr.fieldAt T_table_Table v5 0)) fun v6 =>
 popO (SemE PG h4 (Instr.loadAt T_map_table_id_api_Item v6)) fun v7 =>
 popO (SemE PG h4 (Instr.loadAt T_table_id (Value.pointer (some ⟨r1, 0, none⟩)))) fun v8 =>
 popO (SemE PG h4 (Instr.lookup T_map_table_id_api_Item v7 v8 true)) fun v9 =>
 popO (SemP PG (Instr.extract v9 0)) fun v10 =>
 popO (SemP PG (Instr.extract v9 1)) fun v11 =>
 ∀ r12, h4 r12 = none → bindH (PH.set h4 r12 (.cells (zcells PG T_api_Item) T_api_Item)) fun h13 =>
 SemH PG (storeS T_api_Item (Value.pointer (some ⟨r12, 0, none⟩)) v10) h13 fun v14 h15 =>
 (popO (SemP PG (Op.unary UnOp.not v11)) fun v16 =>
 gopV (yV v16) true (fun k19 => k19 t0 h15) h15 fun v17 h18 =>
 gopV (yV v16) true (fun k22 => popO (SemP PG (nilS v17)) fun v23 => k22 v23 h18) h18 fun v20 h21 =>
 gopV (yV v16) true (fun k26 => popO (SemP PG (Instr.fieldAt T_table_Table v20 0)) fun v27 => k26 v27 h21) h21 fun v24 h25 =>
 gopV (yV v16) true (fun k30 => popO (SemE PG h25 (Instr.loadAt T_map_table_id_api_Item v24)) fun v31 => k30 v31 h25) h25 fun v28 h29 =>
 gopV (yV v16) true (fun k34 => popO (SemE PG h29 (Builtin.len_ #[T_map_table_id_api_Item] T_int #[v28])) fun v35 => k34 v35 h29) h29 fun v32 h33 =>
 gopV (yV v16) true (fun k38 => k38 t0 h33) h33 fun v36 h37 =>
 gopV (yV v16) true (fun k41 => popO (SemP PG (nilS v36)) fun v42 => k41 v42 h37) h37 fun v39 h40 =>
 gopV (yV v16) true (fun k45 => popO (SemP PG (Instr.fieldAt T_table_Table v39 1)) fun v46 => k45 v46 h40) h40 fun v43 h44 =>
 gopV (yV v16) true (fun k49 => popO (SemE PG h44 (Instr.loadAt T_int v43)) fun v50 => k49 v50 h44) h44 fun v47 h48 =>
 gopV (yV v16) true (fun k53 => popO (SemP PG (binOp BinOp.geq T_int v32 v47)) fun v54 => k53 v54 h48) h48 fun v51 h52 =>
 popO (pickV v16 v51 (Value.bool false)) fun v55 =>
 condV v55
 (R (Value.int IntKind.i64 2) h52)
 (popO (SemP PG (nilS t0)) fun v56 =>
 popO (SemP PG (Instr.fieldAt T_table_Table v56 0)) fun v57 =>
 popO (SemE PG h52 (Instr.loadAt T_map_table_id_api_Item v57)) fun v58 =>
 popO (SemE PG h52 (Instr.loadAt T_table_id (Value.pointer (some ⟨r1, 0, none⟩)))) fun v59 =>
 popO (SemE PG h52 (Instr.loadAt T_api_Item (Value.pointer (some ⟨r3, 0, none⟩)))) fun v60 =>
 SemH PG (mapUpdS T_map_table_id_api_Item v58 v59 v60) h52 fun v61 h62 =>
 (R (Value.int IntKind.i64 0) h62)))
def table_Table_put.ann : Ann := { b := fun i => match i with | 1 => #[0, 1, 3, 7, 0, 31, 63, 127, 127, 0, 767, 2047] | 2 => #[0, 1, 3, 7, 15, 31, 63, 127, 7, 263, 775, 1799, 4095, 8191] | 4 => #[0, 1, 3, 7, 0, 0, 63] | _ => #[], ord := fun i => match i with | 1 => [0, 1, 2, 3, 4, 5, 6, 7, 8, 9, 10, 11] | 2 => [0, 1, 2, 3, 4, 5, 6, 7, 8, 9, 10, 11, 12, 13] | 4 => [0, 1, 2, 3, 4, 5, 6] | _ => [], keep := fun i => match i with  | _ => [], n := 38 }
theorem table_Table_put.eq (t0 : Value) (t1 : Value) (t2 : Value) (h0 : PH) (R : Value → PH → Prop) : codeF PG table_Table_put.ann 200 (bodyOf Tryz.f90) (endH PG Tryz.f90 R) (fun t => (#[t0, t1, t2] : Array Value).getD t undef) h0 = table_Table_put t0 t1 t2 h0 R := by kernel_rfl
theorem table_Table_put.call {t0 : Value} {t1 : Value} {t2 : Value} {h0 : PH} {R : Value → PH → Prop} (H : table_Table_put t0 t1 t2 h0 R) : CallsH PG id_table_Table_put #[t0, t1, t2] h0 R :=
  callsF_by table_Table_put.ann 200 mix Tryz.func90 (by kernel_rfl) (by kernel_rfl) (by kernel_rfl) (by kernel_rfl) (by simp [Tryz.ntmps90]) (table_Table_put.eq t0 t1 t2 h0 R) H

def table_Table_received_k20 (R : Value → PH → Prop) (t0 : Value) (t4 : Value) (t5 : Value) (h0 : PH) : Prop :=
 popO (SemE PG h0 (Instr.loadAt T_table_id t4)) fun v21 =>
 popO (SemE PG h0 (Instr.loadAt T_api_Packet t5)) fun v22 =>
 popO (SemP PG (Instr.build T_api_Item #[(0, v22), (1, (Value.int IntKind.i64 2))])) fun v23 =>
 CallsH PG id_table_Table_put #[t0, v21, v23] h0 fun v24 h25 =>
 R v24 h25
def table_Table_received (t0 : Value) (t1 : Value) (t2 : Value) (h0 : PH) (R : Value → PH → Prop) : Prop :=
 ∀ r1, h0 r1 = none → bindH (PH.set h0 r1 (.cells (Value.cells t1) T_table_id)) fun h2 =>
 ∀ r3, h2 r3 = none → bindH (PH.set h2 r3 (.cells (Value.cells t2) T_api_Packet)) fun h4 =>
 popO (SemP PG (nilS t0)) fun v5 =>
 popO (SemP PG (Instr.fieldAt T_table_Table v5 0)) fun v6 =>
 popO (SemE PG h4 (Instr.loadAt T_map_table_id_api_Item v6)) fun v7 =>
 popO (SemE PG h4 (Instr.loadAt T_table_id (Value.pointer (some ⟨r1, 0, none⟩)))) fun v8 =>
 popO (SemE PG h4 (Instr.lookup T_map_table_id_api_Item v7 v8 true)) fun v9 =>
 popO (SemP PG (Instr.extract v9 0)) fun v10 =>
 popO (SemP PG (Instr.extract v9 1)) fun v11 =>
 ∀ r12, h4 r12 = none → bindH (PH.set h4 r12 (.cells (zcells PG T_api_Item) T_api_Item)) fun h13 =>
 SemH PG (storeS T_api_Item (Value.pointer (some ⟨r12, 0, none⟩)) v10) h13 fun v14 h15 =>
 (condV v11
 (popO (SemP PG (Instr.fieldAt T_api_Item (Value.pointer (some ⟨r12, 0, none⟩)) 0)) fun v16 =>
 popO (SemE PG h15 (Instr.loadAt T_api_Packet v16)) fun v17 =>
 SemH PG (storeS T_api_Packet (Value.pointer (some ⟨r3, 0, none⟩)) v17) h15 fun v18 h19 =>
 table_Table_received_k20 R t0 (Value.pointer (some ⟨r1, 0, none⟩)) (Value.pointer (some ⟨r3, 0, none⟩)) h19)
 (table_Table_received_k20 R t0 (Value.pointer (some ⟨r1, 0, none⟩)) (Value.pointer (some ⟨r3, 0, none⟩)) h15))
def table_Table_received.ann : Ann := { b := fun i => match i with | 1 => #[0, 1, 3, 7, 0, 31, 63, 127, 127, 0, 767, 2047] | _ => #[], ord := fun i => match i with | 1 => [0, 1, 2, 3, 4, 5, 6, 7, 8, 9, 10, 11] | _ => [], keep := fun i => match i with  | _ => [], n := 26 }
theorem table_Table_received.eq (t0 : Value) (t1 : Value) (t2 : Value) (h0 : PH) (R : Value → PH → Prop) : codeF PG table_Table_received.ann 200 (bodyOf Tryz.f70) (endH PG Tryz.f70 R) (fun t => (#[t0, t1, t2] : Array Value).getD t undef) h0 = table_Table_received t0 t1 t2 h0 R := by kernel_rfl
theorem table_Table_received.call {t0 : Value} {t1 : Value} {t2 : Value} {h0 : PH} {R : Value → PH → Prop} (H : table_Table_received t0 t1 t2 h0 R) : CallsH PG id_table_Table_received #[t0, t1, t2] h0 R :=
  callsF_by table_Table_received.ann 200 mix Tryz.func70 (by kernel_rfl) (by kernel_rfl) (by kernel_rfl) (by kernel_rfl) (by simp [Tryz.ntmps70]) (table_Table_received.eq t0 t1 t2 h0 R) H

def table_Table_over (t0 : Value) (t1 : Value) (t2 : Value) (h0 : PH) (R : Value → PH → Prop) : Prop :=
 ∀ r1, h0 r1 = none → bindH (PH.set h0 r1 (.cells (Value.cells t1) T_table_id)) fun h2 =>
 ∀ r3, h2 r3 = none → bindH (PH.set h2 r3 (.cells (Value.cells t2) T_api_Packet)) fun h4 =>
 popO (SemP PG (nilS t0)) fun v5 =>
 popO (SemP PG (Instr.fieldAt T_table_Table v5 0)) fun v6 =>
 popO (SemE PG h4 (Instr.loadAt T_map_table_id_api_Item v6)) fun v7 =>
 popO (SemE PG h4 (Instr.loadAt T_table_id (Value.pointer (some ⟨r1, 0, none⟩)))) fun v8 =>
 SemH PG (Builtin.delete_ #[T_map_table_id_api_Item, T_table_id] T_ #[v7, v8]) h4 fun v9 h10 =>
 (R (Value.int IntKind.i64 0) h10)
def table_Table_over.ann : Ann := { b := fun i => match i with | 1 => #[0, 1, 3, 7, 0, 31] | _ => #[], ord := fun i => match i with | 1 => [0, 1, 2, 3, 4, 5] | _ => [], keep := fun i => match i with  | _ => [], n := 12 }
theorem table_Table_over.eq (t0 : Value) (t1 : Value) (t2 : Value) (h0 : PH) (R : Value → PH → Prop) : codeF PG table_Table_over.ann 200 (bodyOf Tryz.f71) (endH PG Tryz.f71 R) (fun t => (#[t0, t1, t2] : Array Value).getD t undef) h0 = table_Table_over t0 t1 t2 h0 R := by kernel_rfl
theorem table_Table_over.call {t0 : Value} {t1 : Value} {t2 : Value} {h0 : PH} {R : Value → PH → Prop} (H : table_Table_over t0 t1 t2 h0 R) : CallsH PG id_table_Table_over #[t0, t1, t2] h0 R :=
  callsF_by table_Table_over.ann 200 mix Tryz.func71 (by kernel_rfl) (by kernel_rfl) (by kernel_rfl) (by kernel_rfl) (by simp [Tryz.ntmps71]) (table_Table_over.eq t0 t1 t2 h0 R) H

def carracklaw17_few_b44 (R : Value → PH → Prop) (n43 : List Value → PH → Prop) (t1 : Value) (t4 : Value) (h0 : PH) : Prop :=
 popO (SemP PG (Instr.fieldAt T_api_Record t1 1)) fun v45 =>
 popO (SemP PG (Instr.fieldAt T_api_Daemon v45 1)) fun v46 =>
 popO (SemE PG h0 (Instr.loadAt T_sl_api_Item v46)) fun v47 =>
 popO (SemP PG (Builtin.len_ #[T_sl_api_Item] T_int #[v47])) fun v48 =>
 popO (SemP PG (binOp BinOp.lss T_int t4 v48)) fun v49 =>
 condV v49
 (popO (SemP PG (Instr.fieldAt T_api_Record t1 1)) fun v50 =>
 popO (SemP PG (Instr.fieldAt T_api_Daemon v50 1)) fun v51 =>
 popO (SemE PG h0 (Instr.loadAt T_sl_api_Item v51)) fun v52 =>
 popO (SemP PG (Instr.indexAt T_sl_api_Item v52 t4)) fun v53 =>
 popO (SemP PG (Instr.fieldAt T_api_Item v53 0)) fun v54 =>
 popO (SemP PG (Instr.fieldAt T_api_Packet v54 3)) fun v55 =>
 popO (SemE PG h0 (Instr.loadAt T_string v55)) fun v56 =>
 popO (SemP PG (Builtin.len_ #[T_string] T_int #[v56])) fun v57 =>
 popO (SemP PG (binOp BinOp.gtr T_int v57 (Value.int IntKind.i64 300))) fun v58 =>
 condV v58
 (R (Value.bool false) h0)
 (popO (SemP PG (binOp BinOp.add T_int t4 (Value.int IntKind.i64 1))) fun v59 =>
 n43 [t1, v59] h0))
 (R (Value.bool true) h0)
def carracklaw17_few_b29 (R : Value → PH → Prop) (n28 : List Value → PH → Prop) (t1 : Value) (t3 : Value) (h0 : PH) : Prop :=
 popO (SemP PG (Instr.fieldAt T_api_Record t1 4)) fun v30 =>
 popO (SemE PG h0 (Instr.loadAt T_sl_api_Note v30)) fun v31 =>
 popO (SemP PG (Builtin.len_ #[T_sl_api_Note] T_int #[v31])) fun v32 =>
 popO (SemP PG (binOp BinOp.lss T_int t3 v32)) fun v33 =>
 condV v33
 (popO (SemP PG (Instr.fieldAt T_api_Record t1 4)) fun v34 =>
 popO (SemE PG h0 (Instr.loadAt T_sl_api_Note v34)) fun v35 =>
 popO (SemP PG (Instr.indexAt T_sl_api_Note v35 t3)) fun v36 =>
 popO (SemP PG (Instr.fieldAt T_api_Note v36 1)) fun v37 =>
 popO (SemP PG (Instr.fieldAt T_api_Packet v37 3)) fun v38 =>
 popO (SemE PG h0 (Instr.loadAt T_string v38)) fun v39 =>
 popO (SemP PG (Builtin.len_ #[T_string] T_int #[v39])) fun v40 =>
 popO (SemP PG (binOp BinOp.gtr T_int v40 (Value.int IntKind.i64 300))) fun v41 =>
 condV v41
 (R (Value.bool false) h0)
 (popO (SemP PG (binOp BinOp.add T_int t3 (Value.int IntKind.i64 1))) fun v42 =>
 n28 [t1, v42] h0))
 (LoopL [1, 4] (fun n43 ρ h => carracklaw17_few_b44 R n43 (ρ 1) (ρ 4) h) [t1, (Value.int IntKind.i64 0)] h0)
def carracklaw17_few (t0 : Value) (h0 : PH) (R : Value → PH → Prop) : Prop :=
 ∀ r1, h0 r1 = none → bindH (PH.set h0 r1 (.cells (Value.cells t0) T_api_Record)) fun h2 =>
 popO (SemP PG (Instr.fieldAt T_api_Record (Value.pointer (some ⟨r1, 0, none⟩)) 4)) fun v3 =>
 popO (SemE PG h2 (Instr.loadAt T_sl_api_Note v3)) fun v4 =>
 popO (SemP PG (Builtin.len_ #[T_sl_api_Note] T_int #[v4])) fun v5 =>
 popO (SemP PG (binOp BinOp.gtr T_int v5 (Value.int IntKind.i64 300))) fun v6 =>
 gopV (yV v6) false (fun k9 => popO (SemP PG (Instr.fieldAt T_api_Record (Value.pointer (some ⟨r1, 0, none⟩)) 1)) fun v10 => k9 v10 h2) h2 fun v7 h8 =>
 gopV (yV v6) false (fun k13 => popO (SemP PG (Instr.fieldAt T_api_Daemon v7 1)) fun v14 => k13 v14 h8) h8 fun v11 h12 =>
 gopV (yV v6) false (fun k17 => popO (SemE PG h12 (Instr.loadAt T_sl_api_Item v11)) fun v18 => k17 v18 h12) h12 fun v15 h16 =>
 gopV (yV v6) false (fun k21 => popO (SemP PG (Builtin.len_ #[T_sl_api_Item] T_int #[v15])) fun v22 => k21 v22 h16) h16 fun v19 h20 =>
 gopV (yV v6) false (fun k25 => popO (SemP PG (binOp BinOp.gtr T_int v19 (Value.int IntKind.i64 300))) fun v26 => k25 v26 h20) h20 fun v23 h24 =>
 popO (pickV v6 (Value.bool true) v23) fun v27 =>
 condV v27
 (R (Value.bool false) h24)
 (LoopL [1, 3] (fun n28 ρ h => carracklaw17_few_b29 R n28 (ρ 1) (ρ 3) h) [(Value.pointer (some ⟨r1, 0, none⟩)), (Value.int IntKind.i64 0)] h24)
def carracklaw17_few.ann : Ann := { b := fun i => match i with  | _ => #[], ord := fun i => match i with  | _ => [], keep := fun i => match i with | 4 => [1, 3] | 9 => [1, 4] | _ => [], n := 50 }
theorem carracklaw17_few.eq (t0 : Value) (h0 : PH) (R : Value → PH → Prop) : codeF PG carracklaw17_few.ann 200 (bodyOf Tryz.f5) (endH PG Tryz.f5 R) (fun t => (#[t0] : Array Value).getD t undef) h0 = carracklaw17_few t0 h0 R := by kernel_rfl
theorem carracklaw17_few.call {t0 : Value} {h0 : PH} {R : Value → PH → Prop} (H : carracklaw17_few t0 h0 R) : CallsH PG id_carracklaw17_few #[t0] h0 R :=
  callsF_by carracklaw17_few.ann 200 mix Tryz.func5 (by kernel_rfl) (by kernel_rfl) (by kernel_rfl) (by kernel_rfl) (by simp [Tryz.ntmps5]) (carracklaw17_few.eq t0 h0 R) H

def carrackref17_Step (t0 : Value) (t1 : Value) (t2 : Value) (h0 : PH) (R : Value → PH → Prop) : Prop :=
 ∀ r1, h0 r1 = none → bindH (PH.set h0 r1 (.cells (Value.cells t0) T_api_Daemon)) fun h2 =>
 ∀ r3, h2 r3 = none → bindH (PH.set h2 r3 (.cells (Value.cells t2) T_api_Record)) fun h4 =>
 ∀ r5, h4 r5 = none → bindH (PH.set h4 r5 (.cells (zcells PG T_api_Daemon) T_api_Daemon)) fun h6 =>
 popO (SemE PG h6 (Instr.loadAt T_api_Daemon (Value.pointer (some ⟨r1, 0, none⟩)))) fun v7 =>
 CallsH PG id_carrackref17_Check #[v7, t1] h6 fun v8 h9 =>
 popO (SemE PG h9 (binS BinOp.neq T_int (.tmp 20) (.const (Value.int IntKind.i64 0)) v8 (Value.int IntKind.i64 0))) fun v10 =>
 condV v10
 (popO (SemP PG (Instr.build T_api_Daemon #[])) fun v11 =>
 SemH PG (storeS T_api_Daemon (Value.pointer (some ⟨r5, 0, none⟩)) v11) h9 fun v12 h13 =>
 popO (SemE PG h13 (Instr.loadAt T_api_Daemon (Value.pointer (some ⟨r5, 0, none⟩)))) fun v14 =>
 R (Value.tuple #[v14, v8]) h13)
 (popO (SemE PG h9 (Instr.loadAt T_api_Record (Value.pointer (some ⟨r3, 0, none⟩)))) fun v15 =>
 CallsH PG id_carrackref17_Bytes #[v15] h9 fun v16 h17 =>
 popO (SemP PG (Instr.extract v16 0)) fun v18 =>
 popO (SemP PG (Instr.extract v16 1)) fun v19 =>
 popO (SemE PG h17 (binS BinOp.neq T_int (.tmp 29) (.const (Value.int IntKind.i64 0)) v19 (Value.int IntKind.i64 0))) fun v20 =>
 condV v20
 (popO (SemP PG (Instr.build T_api_Daemon #[])) fun v21 =>
 SemH PG (storeS T_api_Daemon (Value.pointer (some ⟨r5, 0, none⟩)) v21) h17 fun v22 h23 =>
 popO (SemE PG h23 (Instr.loadAt T_api_Daemon (Value.pointer (some ⟨r5, 0, none⟩)))) fun v24 =>
 R (Value.tuple #[v24, (Value.int IntKind.i64 1)]) h23)
 (popO (SemP PG (Instr.fieldAt T_api_Record (Value.pointer (some ⟨r3, 0, none⟩)) 0)) fun v25 =>
 popO (SemE PG h17 (Instr.loadAt T_int v25)) fun v26 =>
 popO (SemE PG h17 (binS BinOp.eql T_int (.tmp 33) (.const (Value.int IntKind.i64 1)) v26 (Value.int IntKind.i64 1))) fun v27 =>
 condV v27
 (popO (SemP PG (Instr.fieldAt T_api_Record (Value.pointer (some ⟨r3, 0, none⟩)) 1)) fun v28 =>
 popO (SemE PG h17 (Instr.loadAt T_api_Daemon v28)) fun v29 =>
 CallsH PG id_carrackref17_Check #[v29, t1] h17 fun v30 h31 =>
 popO (SemE PG h31 (binS BinOp.neq T_int (.tmp 39) (.const (Value.int IntKind.i64 0)) v30 (Value.int IntKind.i64 0))) fun v32 =>
 condV v32
 (popO (SemP PG (Instr.build T_api_Daemon #[])) fun v33 =>
 SemH PG (storeS T_api_Daemon (Value.pointer (some ⟨r5, 0, none⟩)) v33) h31 fun v34 h35 =>
 popO (SemE PG h35 (Instr.loadAt T_api_Daemon (Value.pointer (some ⟨r5, 0, none⟩)))) fun v36 =>
 R (Value.tuple #[v36, v30]) h35)
 (popO (SemP PG (Instr.fieldAt T_api_Record (Value.pointer (some ⟨r3, 0, none⟩)) 1)) fun v37 =>
 popO (SemE PG h31 (Instr.loadAt T_api_Daemon v37)) fun v38 =>
 SemH PG (storeS T_api_Daemon (Value.pointer (some ⟨r5, 0, none⟩)) v38) h31 fun v39 h40 =>
 popO (SemE PG h40 (Instr.loadAt T_api_Daemon (Value.pointer (some ⟨r5, 0, none⟩)))) fun v41 =>
 R (Value.tuple #[v41, (Value.int IntKind.i64 0)]) h40))
 (popO (SemP PG (Instr.fieldAt T_api_Daemon (Value.pointer (some ⟨r1, 0, none⟩)) 1)) fun v42 =>
 popO (SemE PG h17 (Instr.loadAt T_sl_api_Item v42)) fun v43 =>
 CallsH PG id_carrackref15_Of #[t1, v43] h17 fun v44 h45 =>
 popO (SemP PG (Instr.extract v44 0)) fun v46 =>
 popO (SemP PG (Instr.extract v44 1)) fun v47 =>
 popO (SemP PG (Instr.fieldAt T_api_Record (Value.pointer (some ⟨r3, 0, none⟩)) 4)) fun v48 =>
 popO (SemE PG h45 (Instr.loadAt T_sl_api_Note v48)) fun v49 =>
 CallsH PG id_carrackref16_Apply #[v46, v49] h45 fun v50 h51 =>
 popO (SemP PG (Instr.extract v50 0)) fun v52 =>
 popO (SemP PG (Instr.extract v50 1)) fun v53 =>
 popO (SemE PG h51 (binS BinOp.neq T_int (.tmp 59) (.const (Value.int IntKind.i64 0)) v53 (Value.int IntKind.i64 0))) fun v54 =>
 condV v54
 (popO (SemP PG (Instr.build T_api_Daemon #[])) fun v55 =>
 SemH PG (storeS T_api_Daemon (Value.pointer (some ⟨r5, 0, none⟩)) v55) h51 fun v56 h57 =>
 popO (SemE PG h57 (Instr.loadAt T_api_Daemon (Value.pointer (some ⟨r5, 0, none⟩)))) fun v58 =>
 R (Value.tuple #[v58, v53]) h57)
 (popO (SemP PG (Instr.fieldAt T_api_Daemon (Value.pointer (some ⟨r1, 0, none⟩)) 0)) fun v59 =>
 popO (SemE PG h51 (Instr.loadAt T_2_api_Place v59)) fun v60 =>
 popO (SemP PG (nilS v46)) fun v61 =>
 popO (SemP PG (Instr.fieldAt T_carrackref15_Table v61 0)) fun v62 =>
 popO (SemE PG h51 (Instr.loadAt T_sl_api_Item v62)) fun v63 =>
 popO (SemP PG (Instr.build T_api_Daemon #[(0, v60), (1, v63)])) fun v64 =>
 ∀ r65, h51 r65 = none → bindH (PH.set h51 r65 (.cells (zcells PG T_api_Daemon) T_api_Daemon)) fun h66 =>
 SemH PG (storeS T_api_Daemon (Value.pointer (some ⟨r65, 0, none⟩)) v64) h66 fun v67 h68 =>
 (popO (SemP PG (Instr.fieldAt T_api_Record (Value.pointer (some ⟨r3, 0, none⟩)) 2)) fun v69 =>
 popO (SemE PG h68 (Instr.loadAt T_int v69)) fun v70 =>
 popO (SemP PG (Instr.fieldAt T_api_Record (Value.pointer (some ⟨r3, 0, none⟩)) 3)) fun v71 =>
 popO (SemE PG h68 (Instr.loadAt T_api_Place v71)) fun v72 =>
 popO (SemP PG (Instr.fieldAt T_api_Daemon (Value.pointer (some ⟨r65, 0, none⟩)) 0)) fun v73 =>
 popO (SemP PG (Instr.indexAt T_2_api_Place v73 v70)) fun v74 =>
 SemH PG (storeS T_api_Place v74 v72) h68 fun v75 h76 =>
 popO (SemE PG h76 (Instr.loadAt T_api_Daemon (Value.pointer (some ⟨r65, 0, none⟩)))) fun v77 =>
 SemH PG (storeS T_api_Daemon (Value.pointer (some ⟨r5, 0, none⟩)) v77) h76 fun v78 h79 =>
 popO (SemE PG h79 (Instr.loadAt T_api_Daemon (Value.pointer (some ⟨r5, 0, none⟩)))) fun v80 =>
 R (Value.tuple #[v80, (Value.int IntKind.i64 0)]) h79)))))
def carrackref17_Step.ann : Ann := { b := fun i => match i with | 16 => #[0, 1, 0, 4, 12, 28, 63, 0, 255] | _ => #[], ord := fun i => match i with | 16 => [0, 1, 2, 3, 4, 5, 6, 7, 8] | _ => [], keep := fun i => match i with  | _ => [], n := 77 }
theorem carrackref17_Step.eq (t0 : Value) (t1 : Value) (t2 : Value) (h0 : PH) (R : Value → PH → Prop) : codeF PG carrackref17_Step.ann 200 (bodyOf Tryz.f7) (endH PG Tryz.f7 R) (fun t => (#[t0, t1, t2] : Array Value).getD t undef) h0 = carrackref17_Step t0 t1 t2 h0 R := by kernel_rfl
theorem carrackref17_Step.call {t0 : Value} {t1 : Value} {t2 : Value} {h0 : PH} {R : Value → PH → Prop} (H : carrackref17_Step t0 t1 t2 h0 R) : CallsH PG id_carrackref17_Step #[t0, t1, t2] h0 R :=
  callsF_by carrackref17_Step.ann 200 mix Tryz.func7 (by kernel_rfl) (by kernel_rfl) (by kernel_rfl) (by kernel_rfl) (by simp [Tryz.ntmps7]) (carrackref17_Step.eq t0 t1 t2 h0 R) H

def carrackref17_Check_b10 (R : Value → PH → Prop) (n9 : List Value → PH → Prop) (t2 : Value) (t5 : Value) (t6 : Value) (t7 : Value) (h0 : PH) : Prop :=
 popO (SemP PG (binOp BinOp.lss T_int t7 (Value.int IntKind.i64 2))) fun v11 =>
 condV v11
 (popO (SemP PG (Instr.fieldAt T_api_Daemon t2 0)) fun v12 =>
 popO (SemP PG (Instr.indexAt T_2_api_Place v12 t7)) fun v13 =>
 popO (SemP PG (Instr.fieldAt T_api_Place v13 1)) fun v14 =>
 popO (SemE PG h0 (Instr.loadAt T_int v14)) fun v15 =>
 popO (SemP PG (binOp BinOp.lss T_int v15 (Value.int IntKind.i64 0))) fun v16 =>
 gopV (yV v16) false (fun k19 => k19 t7 h0) h0 fun v17 h18 =>
 gopV (yV v16) false (fun k22 => popO (SemP PG (Instr.fieldAt T_api_Daemon t2 0)) fun v23 => k22 v23 h18) h18 fun v20 h21 =>
 gopV (yV v16) false (fun k26 => popO (SemP PG (Instr.indexAt T_2_api_Place v20 v17)) fun v27 => k26 v27 h21) h21 fun v24 h25 =>
 gopV (yV v16) false (fun k30 => popO (SemP PG (Instr.fieldAt T_api_Place v24 1)) fun v31 => k30 v31 h25) h25 fun v28 h29 =>
 gopV (yV v16) false (fun k34 => popO (SemE PG h29 (Instr.loadAt T_int v28)) fun v35 => k34 v35 h29) h29 fun v32 h33 =>
 gopV (yV v16) false (fun k38 => popO (SemP PG (binOp BinOp.gtr T_int v32 (Value.int IntKind.i64 65535))) fun v39 => k38 v39 h33) h33 fun v36 h37 =>
 popO (pickV v16 (Value.bool true) v36) fun v40 =>
 condV v40
 (R (Value.int IntKind.i64 1) h37)
 (popO (SemP PG (binOp BinOp.add T_int t7 (Value.int IntKind.i64 1))) fun v41 =>
 n9 [t2, t5, t6, v41] h37))
 (popO (SemE PG h0 (binS BinOp.neq T_int (.tmp 33) (.const (Value.int IntKind.i64 0)) t6 (Value.int IntKind.i64 0))) fun v42 =>
 condV v42
 (R t6 h0)
 (popO (SemP PG (nilS t5)) fun v43 =>
 popO (SemP PG (Instr.fieldAt T_carrackref15_Table v43 0)) fun v44 =>
 popO (SemE PG h0 (Instr.loadAt T_sl_api_Item v44)) fun v45 =>
 popO (SemP PG (Instr.fieldAt T_api_Daemon t2 1)) fun v46 =>
 popO (SemE PG h0 (Instr.loadAt T_sl_api_Item v46)) fun v47 =>
 CallsH PG id_carrackref14_SameItems #[v45, v47] h0 fun v48 h49 =>
 (popO (SemP PG (Op.unary UnOp.not v48)) fun v50 =>
 condV v50
 (R (Value.int IntKind.i64 15) h49)
 (R (Value.int IntKind.i64 0) h49))))
def carrackref17_Check (t0 : Value) (t1 : Value) (h0 : PH) (R : Value → PH → Prop) : Prop :=
 ∀ r1, h0 r1 = none → bindH (PH.set h0 r1 (.cells (Value.cells t0) T_api_Daemon)) fun h2 =>
 popO (SemP PG (Instr.fieldAt T_api_Daemon (Value.pointer (some ⟨r1, 0, none⟩)) 1)) fun v3 =>
 popO (SemE PG h2 (Instr.loadAt T_sl_api_Item v3)) fun v4 =>
 CallsH PG id_carrackref15_Of #[t1, v4] h2 fun v5 h6 =>
 popO (SemP PG (Instr.extract v5 0)) fun v7 =>
 popO (SemP PG (Instr.extract v5 1)) fun v8 =>
 LoopL [2, 5, 6, 7] (fun n9 ρ h => carrackref17_Check_b10 R n9 (ρ 2) (ρ 5) (ρ 6) (ρ 7) h) [(Value.pointer (some ⟨r1, 0, none⟩)), v7, v8, (Value.int IntKind.i64 0)] h6
def carrackref17_Check.ann : Ann := { b := fun i => match i with | 9 => #[0, 1, 3, 7, 0, 16, 63, 127] | _ => #[], ord := fun i => match i with | 9 => [0, 1, 2, 3, 4, 5, 6, 7] | _ => [], keep := fun i => match i with | 3 => [2, 5, 6, 7] | _ => [], n := 44 }
theorem carrackref17_Check.eq (t0 : Value) (t1 : Value) (h0 : PH) (R : Value → PH → Prop) : codeF PG carrackref17_Check.ann 200 (bodyOf Tryz.f10) (endH PG Tryz.f10 R) (fun t => (#[t0, t1] : Array Value).getD t undef) h0 = carrackref17_Check t0 t1 h0 R := by kernel_rfl
theorem carrackref17_Check.call {t0 : Value} {t1 : Value} {h0 : PH} {R : Value → PH → Prop} (H : carrackref17_Check t0 t1 h0 R) : CallsH PG id_carrackref17_Check #[t0, t1] h0 R :=
  callsF_by carrackref17_Check.ann 200 mix Tryz.func10 (by kernel_rfl) (by kernel_rfl) (by kernel_rfl) (by kernel_rfl) (by simp [Tryz.ntmps10]) (carrackref17_Check.eq t0 t1 h0 R) H

def carrackref15_Of_b26 (R : Value → PH → Prop) (n25 : List Value → PH → Prop) (t0 : Value) (t1 : Value) (t7 : Value) (t8 : Value) (h0 : PH) : Prop :=
 popO (SemP PG (Builtin.len_ #[T_sl_api_Item] T_int #[t1])) fun v27 =>
 popO (SemP PG (binOp BinOp.lss T_int t8 v27)) fun v28 =>
 condV v28
 (popO (SemP PG (Instr.indexAt T_sl_api_Item t1 t8)) fun v29 =>
 popO (SemP PG (Instr.fieldAt T_api_Item v29 0)) fun v30 =>
 popO (SemP PG (Instr.fieldAt T_api_Packet v30 0)) fun v31 =>
 popO (SemE PG h0 (Instr.loadAt T_int v31)) fun v32 =>
 popO (SemP PG (Instr.indexAt T_sl_api_Item t1 t8)) fun v33 =>
 popO (SemP PG (Instr.fieldAt T_api_Item v33 0)) fun v34 =>
 popO (SemP PG (Instr.fieldAt T_api_Packet v34 1)) fun v35 =>
 popO (SemE PG h0 (Instr.loadAt T_uint64 v35)) fun v36 =>
 CallsH PG id_carrackref15_Table_place #[t7, v32, v36] h0 fun v37 h38 =>
 (popO (SemP PG (Instr.extract v37 0)) fun v39 =>
 popO (SemP PG (Instr.extract v37 1)) fun v40 =>
 condV v40
 (R (Value.tuple #[(Value.pointer none), (Value.int IntKind.i64 4)]) h38)
 (popO (SemP PG (Instr.indexAt T_sl_api_Item t1 t8)) fun v41 =>
 popO (SemE PG h38 (Instr.loadAt T_api_Item v41)) fun v42 =>
 CallsH PG id_carrackref15_Table_put #[t7, v42] h38 fun v43 h44 =>
 popO (SemP PG (binOp BinOp.add T_int t8 (Value.int IntKind.i64 1))) fun v45 =>
 n25 [t0, t1, t7, v45] h44)))
 (popO (SemP PG (Builtin.len_ #[T_sl_api_Item] T_int #[t1])) fun v46 =>
 popO (SemP PG (binOp BinOp.gtr T_int v46 t0)) fun v47 =>
 condV v47
 (R (Value.tuple #[(Value.pointer none), (Value.int IntKind.i64 2)]) h0)
 (popO (SemP PG (nilS t7)) fun v48 =>
 popO (SemP PG (Instr.fieldAt T_carrackref15_Table v48 1)) fun v49 =>
 SemH PG (storeS T_int v49 t0) h0 fun v50 h51 =>
 R (Value.tuple #[t7, (Value.int IntKind.i64 0)]) h51))
def carrackref15_Of_b11 (R : Value → PH → Prop) (n10 : List Value → PH → Prop) (t0 : Value) (t1 : Value) (t6 : Value) (h0 : PH) : Prop :=
 popO (SemP PG (Builtin.len_ #[T_sl_api_Item] T_int #[t1])) fun v12 =>
 popO (SemP PG (binOp BinOp.lss T_int t6 v12)) fun v13 =>
 condV v13
 (popO (SemP PG (Instr.indexAt T_sl_api_Item t1 t6)) fun v14 =>
 popO (SemE PG h0 (Instr.loadAt T_api_Item v14)) fun v15 =>
 CallsH PG id_carrackref14_RightItem #[v15] h0 fun v16 h17 =>
 popO (SemP PG (Op.unary UnOp.not v16)) fun v18 =>
 condV v18
 (R (Value.tuple #[(Value.pointer none), (Value.int IntKind.i64 1)]) h17)
 (popO (SemP PG (binOp BinOp.add T_int t6 (Value.int IntKind.i64 1))) fun v19 =>
 n10 [t0, t1, v19] h17))
 (popO (SemP PG (Builtin.len_ #[T_sl_api_Item] T_int #[t1])) fun v20 =>
 popO (SemP PG (binOp BinOp.add T_int v20 (Value.int IntKind.i64 1))) fun v21 =>
 popO (SemP PG (Instr.build T_carrackref15_Table #[(1, v21)])) fun v22 =>
 ∀ r23, h0 r23 = none → bindH (PH.set h0 r23 (.cells (Value.cells v22) T_carrackref15_Table)) fun h24 =>
 LoopL [0, 1, 7, 8] (fun n25 ρ h => carrackref15_Of_b26 R n25 (ρ 0) (ρ 1) (ρ 7) (ρ 8) h) [t0, t1, (Value.pointer (some ⟨r23, 0, none⟩)), (Value.int IntKind.i64 0)] h24)
def carrackref15_Of (t0 : Value) (t1 : Value) (h0 : PH) (R : Value → PH → Prop) : Prop :=
 popO (SemP PG (binOp BinOp.lss T_int t0 (Value.int IntKind.i64 1))) fun v1 =>
 gopV (yV v1) false (fun k4 => k4 t0 h0) h0 fun v2 h3 =>
 gopV (yV v1) false (fun k7 => popO (SemP PG (binOp BinOp.gtr T_int v2 (Value.int IntKind.i64 40))) fun v8 => k7 v8 h3) h3 fun v5 h6 =>
 popO (pickV v1 (Value.bool true) v5) fun v9 =>
 condV v9
 (R (Value.tuple #[(Value.pointer none), (Value.int IntKind.i64 1)]) h6)
 (LoopL [0, 1, 6] (fun n10 ρ h => carrackref15_Of_b11 R n10 (ρ 0) (ρ 1) (ρ 6) h) [t0, t1, (Value.int IntKind.i64 0)] h6)
def carrackref15_Of.ann : Ann := { b := fun i => match i with | 12 => #[0, 0, 0, 6, 14, 30, 62, 0, 0, 384, 896, 1920, 3968, 8191, 16383, 32767, 32767, 65535, 262143] | _ => #[], ord := fun i => match i with | 12 => [0, 1, 2, 3, 4, 5, 6, 7, 8, 9, 10, 11, 12, 13, 14, 15, 16, 17, 18] | _ => [], keep := fun i => match i with | 4 => [0, 1, 6] | 10 => [0, 1, 7, 8] | _ => [], n := 73 }
theorem carrackref15_Of.eq (t0 : Value) (t1 : Value) (h0 : PH) (R : Value → PH → Prop) : codeF PG carrackref15_Of.ann 200 (bodyOf Tryz.f18) (endH PG Tryz.f18 R) (fun t => (#[t0, t1] : Array Value).getD t undef) h0 = carrackref15_Of t0 t1 h0 R := by kernel_rfl
theorem carrackref15_Of.call {t0 : Value} {t1 : Value} {h0 : PH} {R : Value → PH → Prop} (H : carrackref15_Of t0 t1 h0 R) : CallsH PG id_carrackref15_Of #[t0, t1] h0 R :=
  callsF_by carrackref15_Of.ann 200 mix Tryz.func18 (by kernel_rfl) (by kernel_rfl) (by kernel_rfl) (by kernel_rfl) (by simp [Tryz.ntmps18]) (carrackref15_Of.eq t0 t1 h0 R) H

def carrackref14_RightItem (t0 : Value) (h0 : PH) (R : Value → PH → Prop) : Prop :=
 ∀ r1, h0 r1 = none → bindH (PH.set h0 r1 (.cells (Value.cells t0) T_api_Item)) fun h2 =>
 popO (SemP PG (Instr.fieldAt T_api_Item (Value.pointer (some ⟨r1, 0, none⟩)) 1)) fun v3 =>
 popO (SemE PG h2 (Instr.loadAt T_int v3)) fun v4 =>
 popO (SemE PG h2 (binS BinOp.eql T_int (.tmp 4) (.const (Value.int IntKind.i64 1)) v4 (Value.int IntKind.i64 1))) fun v5 =>
 gopV (yV v5) false (fun k8 => popO (SemP PG (Instr.fieldAt T_api_Item (Value.pointer (some ⟨r1, 0, none⟩)) 1)) fun v9 => k8 v9 h2) h2 fun v6 h7 =>
 gopV (yV v5) false (fun k12 => popO (SemE PG h7 (Instr.loadAt T_int v6)) fun v13 => k12 v13 h7) h7 fun v10 h11 =>
 gopV (yV v5) false (fun k16 => popO (SemE PG h11 (binS BinOp.eql T_int (.tmp 8) (.const (Value.int IntKind.i64 2)) v10 (Value.int IntKind.i64 2))) fun v17 => k16 v17 h11) h11 fun v14 h15 =>
 popO (pickV v5 (Value.bool true) v14) fun v18 =>
 gopV (yV v18) true (fun k21 => popO (SemP PG (Instr.fieldAt T_api_Item (Value.pointer (some ⟨r1, 0, none⟩)) 0)) fun v22 => k21 v22 h15) h15 fun v19 h20 =>
 gopV (yV v18) true (fun k25 => popO (SemE PG h20 (Instr.loadAt T_api_Packet v19)) fun v26 => k25 v26 h20) h20 fun v23 h24 =>
 gopV (yV v18) true (fun k29 => CallsH PG id_carrackref10_Right #[v23] h24 fun v30 h31 => k29 v30 h31) h24 fun v27 h28 =>
 popO (pickV v18 v27 (Value.bool false)) fun v32 =>
 R v32 h28
def carrackref14_RightItem.ann : Ann := { b := fun i => match i with  | _ => #[], ord := fun i => match i with  | _ => [], keep := fun i => match i with  | _ => [], n := 16 }
theorem carrackref14_RightItem.eq (t0 : Value) (h0 : PH) (R : Value → PH → Prop) : codeF PG carrackref14_RightItem.ann 200 (bodyOf Tryz.f47) (endH PG Tryz.f47 R) (fun t => (#[t0] : Array Value).getD t undef) h0 = carrackref14_RightItem t0 h0 R := by kernel_rfl
theorem carrackref14_RightItem.call {t0 : Value} {h0 : PH} {R : Value → PH → Prop} (H : carrackref14_RightItem t0 h0 R) : CallsH PG id_carrackref14_RightItem #[t0] h0 R :=
  callsF_by carrackref14_RightItem.ann 200 mix Tryz.func47 (by kernel_rfl) (by kernel_rfl) (by kernel_rfl) (by kernel_rfl) (by simp [Tryz.ntmps47]) (carrackref14_RightItem.eq t0 h0 R) H

def carrackref10_Right (t0 : Value) (h0 : PH) (R : Value → PH → Prop) : Prop :=
 ∀ r1, h0 r1 = none → bindH (PH.set h0 r1 (.cells (Value.cells t0) T_api_Packet)) fun h2 =>
 popO (SemP PG (Instr.fieldAt T_api_Packet (Value.pointer (some ⟨r1, 0, none⟩)) 0)) fun v3 =>
 popO (SemE PG h2 (Instr.loadAt T_int v3)) fun v4 =>
 popO (SemE PG h2 (binS BinOp.eql T_int (.tmp 4) (.const (Value.int IntKind.i64 0)) v4 (Value.int IntKind.i64 0))) fun v5 =>
 gopV (yV v5) false (fun k8 => popO (SemP PG (Instr.fieldAt T_api_Packet (Value.pointer (some ⟨r1, 0, none⟩)) 0)) fun v9 => k8 v9 h2) h2 fun v6 h7 =>
 gopV (yV v5) false (fun k12 => popO (SemE PG h7 (Instr.loadAt T_int v6)) fun v13 => k12 v13 h7) h7 fun v10 h11 =>
 gopV (yV v5) false (fun k16 => popO (SemE PG h11 (binS BinOp.eql T_int (.tmp 8) (.const (Value.int IntKind.i64 1)) v10 (Value.int IntKind.i64 1))) fun v17 => k16 v17 h11) h11 fun v14 h15 =>
 popO (pickV v5 (Value.bool true) v14) fun v18 =>
 gopV (yV v18) true (fun k21 => popO (SemP PG (Instr.fieldAt T_api_Packet (Value.pointer (some ⟨r1, 0, none⟩)) 1)) fun v22 => k21 v22 h15) h15 fun v19 h20 =>
 gopV (yV v18) true (fun k25 => popO (SemE PG h20 (Instr.loadAt T_uint64 v19)) fun v26 => k25 v26 h20) h20 fun v23 h24 =>
 gopV (yV v18) true (fun k29 => popO (SemP PG (binOp BinOp.gtr T_uint64 v23 (Value.int IntKind.u64 0))) fun v30 => k29 v30 h24) h24 fun v27 h28 =>
 popO (pickV v18 v27 (Value.bool false)) fun v31 =>
 gopV (yV v31) true (fun k34 => popO (SemP PG (Instr.fieldAt T_api_Packet (Value.pointer (some ⟨r1, 0, none⟩)) 2)) fun v35 => k34 v35 h28) h28 fun v32 h33 =>
 gopV (yV v31) true (fun k38 => popO (SemE PG h33 (Instr.loadAt T_uint64 v32)) fun v39 => k38 v39 h33) h33 fun v36 h37 =>
 gopV (yV v31) true (fun k42 => popO (SemP PG (binOp BinOp.gtr T_uint64 v36 (Value.int IntKind.u64 0))) fun v43 => k42 v43 h37) h37 fun v40 h41 =>
 popO (pickV v31 v40 (Value.bool false)) fun v44 =>
 gopV (yV v44) true (fun k47 => popO (SemP PG (Instr.fieldAt T_api_Packet (Value.pointer (some ⟨r1, 0, none⟩)) 3)) fun v48 => k47 v48 h41) h41 fun v45 h46 =>
 gopV (yV v44) true (fun k51 => popO (SemE PG h46 (Instr.loadAt T_string v45)) fun v52 => k51 v52 h46) h46 fun v49 h50 =>
 gopV (yV v44) true (fun k55 => popO (SemP PG (Builtin.len_ #[T_string] T_int #[v49])) fun v56 => k55 v56 h50) h50 fun v53 h54 =>
 gopV (yV v44) true (fun k59 => popO (SemP PG (binOp BinOp.leq T_int v53 (Value.int IntKind.i64 64))) fun v60 => k59 v60 h54) h54 fun v57 h58 =>
 popO (pickV v44 v57 (Value.bool false)) fun v61 =>
 R v61 h58
def carrackref10_Right.ann : Ann := { b := fun i => match i with  | _ => #[], ord := fun i => match i with  | _ => [], keep := fun i => match i with  | _ => [], n := 27 }
theorem carrackref10_Right.eq (t0 : Value) (h0 : PH) (R : Value → PH → Prop) : codeF PG carrackref10_Right.ann 200 (bodyOf Tryz.f80) (endH PG Tryz.f80 R) (fun t => (#[t0] : Array Value).getD t undef) h0 = carrackref10_Right t0 h0 R := by kernel_rfl
theorem carrackref10_Right.call {t0 : Value} {h0 : PH} {R : Value → PH → Prop} (H : carrackref10_Right t0 h0 R) : CallsH PG id_carrackref10_Right #[t0] h0 R :=
  callsF_by carrackref10_Right.ann 200 mix Tryz.func80 (by kernel_rfl) (by kernel_rfl) (by kernel_rfl) (by kernel_rfl) (by simp [Tryz.ntmps80]) (carrackref10_Right.eq t0 h0 R) H

def carrackref15_Table_place_b2 (R : Value → PH → Prop) (n1 : List Value → PH → Prop) (t0 : Value) (t1 : Value) (t2 : Value) (t8 : Value) (h0 : PH) : Prop :=
 popO (SemP PG (nilS t0)) fun v3 =>
 popO (SemP PG (Instr.fieldAt T_carrackref15_Table v3 0)) fun v4 =>
 popO (SemE PG h0 (Instr.loadAt T_sl_api_Item v4)) fun v5 =>
 popO (SemP PG (Builtin.len_ #[T_sl_api_Item] T_int #[v5])) fun v6 =>
 popO (SemP PG (binOp BinOp.lss T_int t8 v6)) fun v7 =>
 gopV (yV v7) true (fun k10 => k10 t0 h0) h0 fun v8 h9 =>
 gopV (yV v7) true (fun k13 => popO (SemP PG (nilS v8)) fun v14 => k13 v14 h9) h9 fun v11 h12 =>
 gopV (yV v7) true (fun k17 => popO (SemP PG (Instr.fieldAt T_carrackref15_Table v11 0)) fun v18 => k17 v18 h12) h12 fun v15 h16 =>
 gopV (yV v7) true (fun k21 => popO (SemE PG h16 (Instr.loadAt T_sl_api_Item v15)) fun v22 => k21 v22 h16) h16 fun v19 h20 =>
 gopV (yV v7) true (fun k25 => k25 t8 h20) h20 fun v23 h24 =>
 gopV (yV v7) true (fun k28 => popO (SemP PG (Instr.indexAt T_sl_api_Item v19 v23)) fun v29 => k28 v29 h24) h24 fun v26 h27 =>
 gopV (yV v7) true (fun k32 => popO (SemP PG (Instr.fieldAt T_api_Item v26 0)) fun v33 => k32 v33 h27) h27 fun v30 h31 =>
 gopV (yV v7) true (fun k36 => popO (SemP PG (Instr.fieldAt T_api_Packet v30 0)) fun v37 => k36 v37 h31) h31 fun v34 h35 =>
 gopV (yV v7) true (fun k40 => popO (SemE PG h35 (Instr.loadAt T_int v34)) fun v41 => k40 v41 h35) h35 fun v38 h39 =>
 gopV (yV v7) true (fun k44 => k44 t1 h39) h39 fun v42 h43 =>
 gopV (yV v7) true (fun k47 => popO (SemP PG (binOp BinOp.lss T_int v38 v42)) fun v48 => k47 v48 h43) h43 fun v45 h46 =>
 gopV (yV v7) true (fun k51 => k51 v45 h46) h46 fun v49 h50 =>
 gopV (yV v49) false (fun k54 => k54 t0 h50) h50 fun v52 h53 =>
 gopV (yV v49) false (fun k57 => popO (SemP PG (nilS v52)) fun v58 => k57 v58 h53) h53 fun v55 h56 =>
 gopV (yV v49) false (fun k61 => popO (SemP PG (Instr.fieldAt T_carrackref15_Table v55 0)) fun v62 => k61 v62 h56) h56 fun v59 h60 =>
 gopV (yV v49) false (fun k65 => popO (SemE PG h60 (Instr.loadAt T_sl_api_Item v59)) fun v66 => k65 v66 h60) h60 fun v63 h64 =>
 gopV (yV v49) false (fun k69 => k69 t8 h64) h64 fun v67 h68 =>
 gopV (yV v49) false (fun k72 => popO (SemP PG (Instr.indexAt T_sl_api_Item v63 v67)) fun v73 => k72 v73 h68) h68 fun v70 h71 =>
 gopV (yV v49) false (fun k76 => popO (SemP PG (Instr.fieldAt T_api_Item v70 0)) fun v77 => k76 v77 h71) h71 fun v74 h75 =>
 gopV (yV v49) false (fun k80 => popO (SemP PG (Instr.fieldAt T_api_Packet v74 0)) fun v81 => k80 v81 h75) h75 fun v78 h79 =>
 gopV (yV v49) false (fun k84 => popO (SemE PG h79 (Instr.loadAt T_int v78)) fun v85 => k84 v85 h79) h79 fun v82 h83 =>
 gopV (yV v49) false (fun k88 => k88 t1 h83) h83 fun v86 h87 =>
 gopV (yV v49) false (fun k91 => popO (SemE PG h87 (binS BinOp.eql T_int (.tmp 37) (.tmp 38) v82 v86)) fun v92 => k91 v92 h87) h87 fun v89 h90 =>
 gopV (yV v49) false (fun k95 => k95 v89 h90) h90 fun v93 h94 =>
 gopV (yV v93) true (fun k98 => k98 t0 h94) h94 fun v96 h97 =>
 gopV (yV v93) true (fun k101 => popO (SemP PG (nilS v96)) fun v102 => k101 v102 h97) h97 fun v99 h100 =>
 gopV (yV v93) true (fun k105 => popO (SemP PG (Instr.fieldAt T_carrackref15_Table v99 0)) fun v106 => k105 v106 h100) h100 fun v103 h104 =>
 gopV (yV v93) true (fun k109 => popO (SemE PG h104 (Instr.loadAt T_sl_api_Item v103)) fun v110 => k109 v110 h104) h104 fun v107 h108 =>
 gopV (yV v93) true (fun k113 => k113 t8 h108) h108 fun v111 h112 =>
 gopV (yV v93) true (fun k116 => popO (SemP PG (Instr.indexAt T_sl_api_Item v107 v111)) fun v117 => k116 v117 h112) h112 fun v114 h115 =>
 gopV (yV v93) true (fun k120 => popO (SemP PG (Instr.fieldAt T_api_Item v114 0)) fun v121 => k120 v121 h115) h115 fun v118 h119 =>
 gopV (yV v93) true (fun k124 => popO (SemP PG (Instr.fieldAt T_api_Packet v118 1)) fun v125 => k124 v125 h119) h119 fun v122 h123 =>
 gopV (yV v93) true (fun k128 => popO (SemE PG h123 (Instr.loadAt T_uint64 v122)) fun v129 => k128 v129 h123) h123 fun v126 h127 =>
 gopV (yV v93) true (fun k132 => k132 t2 h127) h127 fun v130 h131 =>
 gopV (yV v93) true (fun k135 => popO (SemP PG (binOp BinOp.lss T_uint64 v126 v130)) fun v136 => k135 v136 h131) h131 fun v133 h134 =>
 gopV (yV v49) false (fun k139 => popO (pickV v93 v133 (Value.bool false)) fun v140 => k139 v140 h134) h134 fun v137 h138 =>
 gopV (yV v7) true (fun k143 => popO (pickV v49 (Value.bool true) v137) fun v144 => k143 v144 h138) h138 fun v141 h142 =>
 popO (pickV v7 v141 (Value.bool false)) fun v145 =>
 condV v145
 (popO (SemP PG (binOp BinOp.add T_int t8 (Value.int IntKind.i64 1))) fun v146 =>
 n1 [t0, t1, t2, v146] h142)
 (popO (SemP PG (nilS t0)) fun v147 =>
 popO (SemP PG (Instr.fieldAt T_carrackref15_Table v147 0)) fun v148 =>
 popO (SemE PG h142 (Instr.loadAt T_sl_api_Item v148)) fun v149 =>
 popO (SemP PG (Builtin.len_ #[T_sl_api_Item] T_int #[v149])) fun v150 =>
 popO (SemP PG (binOp BinOp.lss T_int t8 v150)) fun v151 =>
 gopV (yV v151) true (fun k154 => k154 t0 h142) h142 fun v152 h153 =>
 gopV (yV v151) true (fun k157 => popO (SemP PG (nilS v152)) fun v158 => k157 v158 h153) h153 fun v155 h156 =>
 gopV (yV v151) true (fun k161 => popO (SemP PG (Instr.fieldAt T_carrackref15_Table v155 0)) fun v162 => k161 v162 h156) h156 fun v159 h160 =>
 gopV (yV v151) true (fun k165 => popO (SemE PG h160 (Instr.loadAt T_sl_api_Item v159)) fun v166 => k165 v166 h160) h160 fun v163 h164 =>
 gopV (yV v151) true (fun k169 => k169 t8 h164) h164 fun v167 h168 =>
 gopV (yV v151) true (fun k172 => popO (SemP PG (Instr.indexAt T_sl_api_Item v163 v167)) fun v173 => k172 v173 h168) h168 fun v170 h171 =>
 gopV (yV v151) true (fun k176 => popO (SemP PG (Instr.fieldAt T_api_Item v170 0)) fun v177 => k176 v177 h171) h171 fun v174 h175 =>
 gopV (yV v151) true (fun k180 => popO (SemP PG (Instr.fieldAt T_api_Packet v174 0)) fun v181 => k180 v181 h175) h175 fun v178 h179 =>
 gopV (yV v151) true (fun k184 => popO (SemE PG h179 (Instr.loadAt T_int v178)) fun v185 => k184 v185 h179) h179 fun v182 h183 =>
 gopV (yV v151) true (fun k188 => k188 t1 h183) h183 fun v186 h187 =>
 gopV (yV v151) true (fun k191 => popO (SemE PG h187 (binS BinOp.eql T_int (.tmp 74) (.tmp 75) v182 v186)) fun v192 => k191 v192 h187) h187 fun v189 h190 =>
 popO (pickV v151 v189 (Value.bool false)) fun v193 =>
 gopV (yV v193) true (fun k196 => k196 t0 h190) h190 fun v194 h195 =>
 gopV (yV v193) true (fun k199 => popO (SemP PG (nilS v194)) fun v200 => k199 v200 h195) h195 fun v197 h198 =>
 gopV (yV v193) true (fun k203 => popO (SemP PG (Instr.fieldAt T_carrackref15_Table v197 0)) fun v204 => k203 v204 h198) h198 fun v201 h202 =>
 gopV (yV v193) true (fun k207 => popO (SemE PG h202 (Instr.loadAt T_sl_api_Item v201)) fun v208 => k207 v208 h202) h202 fun v205 h206 =>
 gopV (yV v193) true (fun k211 => k211 t8 h206) h206 fun v209 h210 =>
 gopV (yV v193) true (fun k214 => popO (SemP PG (Instr.indexAt T_sl_api_Item v205 v209)) fun v215 => k214 v215 h210) h210 fun v212 h213 =>
 gopV (yV v193) true (fun k218 => popO (SemP PG (Instr.fieldAt T_api_Item v212 0)) fun v219 => k218 v219 h213) h213 fun v216 h217 =>
 gopV (yV v193) true (fun k222 => popO (SemP PG (Instr.fieldAt T_api_Packet v216 1)) fun v223 => k222 v223 h217) h217 fun v220 h221 =>
 gopV (yV v193) true (fun k226 => popO (SemE PG h221 (Instr.loadAt T_uint64 v220)) fun v227 => k226 v227 h221) h221 fun v224 h225 =>
 gopV (yV v193) true (fun k230 => k230 t2 h225) h225 fun v228 h229 =>
 gopV (yV v193) true (fun k233 => popO (SemE PG h229 (binS BinOp.eql T_uint64 (.tmp 87) (.tmp 88) v224 v228)) fun v234 => k233 v234 h229) h229 fun v231 h232 =>
 popO (pickV v193 v231 (Value.bool false)) fun v235 =>
 R (Value.tuple #[t8, v235]) h232)
def carrackref15_Table_place (t0 : Value) (t1 : Value) (t2 : Value) (h0 : PH) (R : Value → PH → Prop) : Prop :=
 LoopL [0, 1, 2, 8] (fun n1 ρ h => carrackref15_Table_place_b2 R n1 (ρ 0) (ρ 1) (ρ 2) (ρ 8) h) [t0, t1, t2, (Value.int IntKind.i64 0)] h0
def carrackref15_Table_place.ann : Ann := { b := fun i => match i with | 4 => #[0, 0, 0, 4, 12, 28, 60, 126, 254, 510, 1022, 2046, 4094, 510, 16382, 32766, 65534, 131070, 510, 524286, 1048574, 2097150, 4194302, 8388606, 16777214, 33554430, 4194302, 134217726, 268435454, 536870910, 1073741822, 4194302, 4294967294, 8589934590, 4194303, 34359738367] | _ => #[], ord := fun i => match i with | 4 => [0, 1, 2, 3, 4, 5, 6, 7, 8, 9, 10, 11, 12, 13, 14, 15, 16, 17, 18, 19, 20, 21, 22, 23, 24, 25, 26, 27, 28, 29, 30, 31, 32, 33, 34, 35] | _ => [], keep := fun i => match i with | 2 => [0, 1, 2, 8] | _ => [], n := 91 }
theorem carrackref15_Table_place.eq (t0 : Value) (t1 : Value) (t2 : Value) (h0 : PH) (R : Value → PH → Prop) : codeF PG carrackref15_Table_place.ann 200 (bodyOf Tryz.f48) (endH PG Tryz.f48 R) (fun t => (#[t0, t1, t2] : Array Value).getD t undef) h0 = carrackref15_Table_place t0 t1 t2 h0 R := by kernel_rfl
theorem carrackref15_Table_place.call {t0 : Value} {t1 : Value} {t2 : Value} {h0 : PH} {R : Value → PH → Prop} (H : carrackref15_Table_place t0 t1 t2 h0 R) : CallsH PG id_carrackref15_Table_place #[t0, t1, t2] h0 R :=
  callsF_by carrackref15_Table_place.ann 200 mix Tryz.func48 (by kernel_rfl) (by kernel_rfl) (by kernel_rfl) (by kernel_rfl) (by simp [Tryz.ntmps48]) (carrackref15_Table_place.eq t0 t1 t2 h0 R) H

def carrackref15_Table_put (t0 : Value) (t1 : Value) (h0 : PH) (R : Value → PH → Prop) : Prop :=
 ∀ r1, h0 r1 = none → bindH (PH.set h0 r1 (.cells (Value.cells t1) T_api_Item)) fun h2 =>
 popO (SemP PG (nilS t0)) fun v3 =>
 popO (SemP PG (Instr.fieldAt T_carrackref15_Table v3 0)) fun v4 =>
 popO (SemE PG h2 (Instr.loadAt T_sl_api_Item v4)) fun v5 =>
 popO (SemP PG (Builtin.len_ #[T_sl_api_Item] T_int #[v5])) fun v6 =>
 popO (SemP PG (nilS t0)) fun v7 =>
 popO (SemP PG (Instr.fieldAt T_carrackref15_Table v7 1)) fun v8 =>
 popO (SemE PG h2 (Instr.loadAt T_int v8)) fun v9 =>
 popO (SemP PG (binOp BinOp.geq T_int v6 v9)) fun v10 =>
 condV v10
 (R (Value.int IntKind.i64 2) h2)
 (popO (SemP PG (Instr.fieldAt T_api_Item (Value.pointer (some ⟨r1, 0, none⟩)) 0)) fun v11 =>
 popO (SemP PG (Instr.fieldAt T_api_Packet v11 0)) fun v12 =>
 popO (SemE PG h2 (Instr.loadAt T_int v12)) fun v13 =>
 popO (SemP PG (Instr.fieldAt T_api_Item (Value.pointer (some ⟨r1, 0, none⟩)) 0)) fun v14 =>
 popO (SemP PG (Instr.fieldAt T_api_Packet v14 1)) fun v15 =>
 popO (SemE PG h2 (Instr.loadAt T_uint64 v15)) fun v16 =>
 CallsH PG id_carrackref15_Table_place #[t0, v13, v16] h2 fun v17 h18 =>
 popO (SemP PG (Instr.extract v17 0)) fun v19 =>
 popO (SemP PG (Instr.extract v17 1)) fun v20 =>
 popO (SemP PG (nilS t0)) fun v21 =>
 popO (SemP PG (Instr.fieldAt T_carrackref15_Table v21 0)) fun v22 =>
 popO (SemE PG h18 (Instr.loadAt T_sl_api_Item v22)) fun v23 =>
 popO (SemP PG (Instr.sliceAt T_sl_api_Item v23 none (some v19) none)) fun v24 =>
 popO (SemE PG h18 (Instr.loadAt T_api_Item (Value.pointer (some ⟨r1, 0, none⟩)))) fun v25 =>
 popO (SemP PG (nilS t0)) fun v26 =>
 popO (SemP PG (Instr.fieldAt T_carrackref15_Table v26 0)) fun v27 =>
 popO (SemE PG h18 (Instr.loadAt T_sl_api_Item v27)) fun v28 =>
 popO (SemP PG (Instr.sliceAt T_sl_api_Item v28 (some v19) none none)) fun v29 =>
 popO (SemA PG (Instr.buildSlice T_sl_api_Item 0 #[])) fun x31 => ∀ r30, h18 r30 = none → popO (SemP PG (x31.2 r30)) fun v32 => bindH (PH.set h18 r30 x31.1) fun h33 =>
 SemH PG (Builtin.append_ #[T_sl_api_Item, T_sl_api_Item] T_sl_api_Item #[v32, v24]) h33 fun v34 h35 =>
 SemE PG h35 (Instr.loadAt T_sl_api_Item v27) = some v28 ∧ SemE PG h35 (Instr.loadAt T_api_Item (Value.pointer (some ⟨r1, 0, none⟩))) = some v25 ∧ (popO (SemA PG (Instr.buildSlice T_sl_api_Item 1 #[(0, v25)])) fun x37 => ∀ r36, h35 r36 = none → popO (SemP PG (x37.2 r36)) fun v38 => bindH (PH.set h35 r36 x37.1) fun h39 =>
 SemH PG (Builtin.append_ #[T_sl_api_Item, T_sl_api_Item] T_sl_api_Item #[v34, v38]) h39 fun v40 h41 =>
 SemE PG h41 (Instr.loadAt T_sl_api_Item v27) = some v28 ∧ (SemH PG (Builtin.append_ #[T_sl_api_Item, T_sl_api_Item] T_sl_api_Item #[v40, v29]) h41 fun v42 h43 =>
 (popO (SemP PG (nilS t0)) fun v44 =>
 popO (SemP PG (Instr.fieldAt T_carrackref15_Table v44 0)) fun v45 =>
 SemH PG (storeS T_sl_api_Item v45 v42) h43 fun v46 h47 =>
 (R (Value.int IntKind.i64 0) h47)))))
def carrackref15_Table_put.ann : Ann := { b := fun i => match i with | 1 => #[0, 1, 3, 7, 15, 0, 32, 96, 224, 511] | 4 => #[0, 0, 0, 4, 12, 28, 0, 124, 254, 0, 512, 2046, 0, 4096, 12288, 28672, 0, 126976, 262142, 524287, 1048575, 2097151] | _ => #[], ord := fun i => match i with | 1 => [0, 1, 2, 3, 4, 5, 6, 7, 8, 9] | 4 => [0, 2, 3, 4, 5, 6, 7, 9, 12, 13, 14, 15, 16, 17, 1, 8, 10, 11, 18, 19, 20, 21] | _ => [], keep := fun i => match i with  | _ => [], n := 49 }
theorem carrackref15_Table_put.eq (t0 : Value) (t1 : Value) (h0 : PH) (R : Value → PH → Prop) : codeF PG carrackref15_Table_put.ann 200 (bodyOf Tryz.f49) (endH PG Tryz.f49 R) (fun t => (#[t0, t1] : Array Value).getD t undef) h0 = carrackref15_Table_put t0 t1 h0 R := by kernel_rfl
theorem carrackref15_Table_put.call {t0 : Value} {t1 : Value} {h0 : PH} {R : Value → PH → Prop} (H : carrackref15_Table_put t0 t1 h0 R) : CallsH PG id_carrackref15_Table_put #[t0, t1] h0 R :=
  callsF_by carrackref15_Table_put.ann 200 mix Tryz.func49 (by kernel_rfl) (by kernel_rfl) (by kernel_rfl) (by kernel_rfl) (by simp [Tryz.ntmps49]) (carrackref15_Table_put.eq t0 t1 h0 R) H

def carrackref14_SameItems_b5 (R : Value → PH → Prop) (n4 : List Value → PH → Prop) (t0 : Value) (t1 : Value) (t5 : Value) (h0 : PH) : Prop :=
 popO (SemP PG (Builtin.len_ #[T_sl_api_Item] T_int #[t0])) fun v6 =>
 popO (SemP PG (binOp BinOp.lss T_int t5 v6)) fun v7 =>
 condV v7
 (popO (SemP PG (Instr.indexAt T_sl_api_Item t0 t5)) fun v8 =>
 popO (SemE PG h0 (Instr.loadAt T_api_Item v8)) fun v9 =>
 popO (SemP PG (Instr.indexAt T_sl_api_Item t1 t5)) fun v10 =>
 popO (SemE PG h0 (Instr.loadAt T_api_Item v10)) fun v11 =>
 popO (SemE PG h0 (binS BinOp.neq T_api_Item (.tmp 20) (.tmp 24) v9 v11)) fun v12 =>
 condV v12
 (R (Value.bool false) h0)
 (popO (SemP PG (binOp BinOp.add T_int t5 (Value.int IntKind.i64 1))) fun v13 =>
 n4 [t0, t1, v13] h0))
 (R (Value.bool true) h0)
def carrackref14_SameItems (t0 : Value) (t1 : Value) (h0 : PH) (R : Value → PH → Prop) : Prop :=
 popO (SemP PG (Builtin.len_ #[T_sl_api_Item] T_int #[t0])) fun v1 =>
 popO (SemP PG (Builtin.len_ #[T_sl_api_Item] T_int #[t1])) fun v2 =>
 popO (SemE PG h0 (binS BinOp.neq T_int (.tmp 7) (.tmp 9) v1 v2)) fun v3 =>
 condV v3
 (R (Value.bool false) h0)
 (LoopL [0, 1, 5] (fun n4 ρ h => carrackref14_SameItems_b5 R n4 (ρ 0) (ρ 1) (ρ 5) h) [t0, t1, (Value.int IntKind.i64 0)] h0)
def carrackref14_SameItems.ann : Ann := { b := fun i => match i with | 6 => #[0, 0, 3, 7, 0, 0, 48, 112, 255] | _ => #[], ord := fun i => match i with | 6 => [0, 1, 2, 3, 4, 5, 6, 7, 8] | _ => [], keep := fun i => match i with | 4 => [0, 1, 5] | _ => [], n := 26 }
theorem carrackref14_SameItems.eq (t0 : Value) (t1 : Value) (h0 : PH) (R : Value → PH → Prop) : codeF PG carrackref14_SameItems.ann 200 (bodyOf Tryz.f20) (endH PG Tryz.f20 R) (fun t => (#[t0, t1] : Array Value).getD t undef) h0 = carrackref14_SameItems t0 t1 h0 R := by kernel_rfl
theorem carrackref14_SameItems.call {t0 : Value} {t1 : Value} {h0 : PH} {R : Value → PH → Prop} (H : carrackref14_SameItems t0 t1 h0 R) : CallsH PG id_carrackref14_SameItems #[t0, t1] h0 R :=
  callsF_by carrackref14_SameItems.ann 200 mix Tryz.func20 (by kernel_rfl) (by kernel_rfl) (by kernel_rfl) (by kernel_rfl) (by simp [Tryz.ntmps20]) (carrackref14_SameItems.eq t0 t1 h0 R) H

def carrackref17_Bytes (t0 : Value) (h0 : PH) (R : Value → PH → Prop) : Prop :=
 ∀ r1, h0 r1 = none → bindH (PH.set h0 r1 (.cells (Value.cells t0) T_api_Record)) fun h2 =>
 popO (SemP PG (Instr.fieldAt T_api_Record (Value.pointer (some ⟨r1, 0, none⟩)) 0)) fun v3 =>
 popO (SemE PG h2 (Instr.loadAt T_int v3)) fun v4 =>
 popO (SemE PG h2 (binS BinOp.eql T_int (.tmp 15) (.const (Value.int IntKind.i64 1)) v4 (Value.int IntKind.i64 1))) fun v5 =>
 condV v5
 (popO (SemP PG (Instr.fieldAt T_api_Record (Value.pointer (some ⟨r1, 0, none⟩)) 1)) fun v6 =>
 popO (SemP PG (Instr.fieldAt T_api_Daemon v6 0)) fun v7 =>
 popO (SemP PG (Instr.indexAt T_2_api_Place v7 (Value.int IntKind.i64 0))) fun v8 =>
 popO (SemE PG h2 (Instr.loadAt T_api_Place v8)) fun v9 =>
 CallsH PG id_carrackref14_Place #[v9] h2 fun v10 h11 =>
 popO (SemP PG (Instr.extract v10 0)) fun v12 =>
 popO (SemP PG (Instr.extract v10 1)) fun v13 =>
 popO (SemP PG (Instr.fieldAt T_api_Record (Value.pointer (some ⟨r1, 0, none⟩)) 1)) fun v14 =>
 popO (SemP PG (Instr.fieldAt T_api_Daemon v14 0)) fun v15 =>
 popO (SemP PG (Instr.indexAt T_2_api_Place v15 (Value.int IntKind.i64 1))) fun v16 =>
 popO (SemE PG h11 (Instr.loadAt T_api_Place v16)) fun v17 =>
 CallsH PG id_carrackref14_Place #[v17] h11 fun v18 h19 =>
 popO (SemP PG (Instr.extract v18 0)) fun v20 =>
 popO (SemP PG (Instr.extract v18 1)) fun v21 =>
 popO (SemP PG (Instr.fieldAt T_api_Record (Value.pointer (some ⟨r1, 0, none⟩)) 1)) fun v22 =>
 popO (SemP PG (Instr.fieldAt T_api_Daemon v22 1)) fun v23 =>
 popO (SemE PG h19 (Instr.loadAt T_sl_api_Item v23)) fun v24 =>
 CallsH PG id_carrackref14_Items #[v24] h19 fun v25 h26 =>
 popO (SemP PG (Instr.extract v25 0)) fun v27 =>
 popO (SemP PG (Instr.extract v25 1)) fun v28 =>
 popO (SemE PG h26 (binS BinOp.neq T_int (.tmp 41) (.const (Value.int IntKind.i64 0)) v13 (Value.int IntKind.i64 0))) fun v29 =>
 gopV (yV v29) false (fun k32 => k32 v21 h26) h26 fun v30 h31 =>
 gopV (yV v29) false (fun k35 => popO (SemE PG h31 (binS BinOp.neq T_int (.tmp 44) (.const (Value.int IntKind.i64 0)) v30 (Value.int IntKind.i64 0))) fun v36 => k35 v36 h31) h31 fun v33 h34 =>
 popO (pickV v29 (Value.bool true) v33) fun v37 =>
 gopV (yV v37) false (fun k40 => k40 v28 h34) h34 fun v38 h39 =>
 gopV (yV v37) false (fun k43 => popO (SemE PG h39 (binS BinOp.neq T_int (.tmp 48) (.const (Value.int IntKind.i64 0)) v38 (Value.int IntKind.i64 0))) fun v44 => k43 v44 h39) h39 fun v41 h42 =>
 popO (pickV v37 (Value.bool true) v41) fun v45 =>
 gopV (yV v45) false (fun k48 => popO (SemP PG (Instr.fieldAt T_api_Record (Value.pointer (some ⟨r1, 0, none⟩)) 1)) fun v49 => k48 v49 h42) h42 fun v46 h47 =>
 gopV (yV v45) false (fun k52 => popO (SemP PG (Instr.fieldAt T_api_Daemon v46 1)) fun v53 => k52 v53 h47) h47 fun v50 h51 =>
 gopV (yV v45) false (fun k56 => popO (SemE PG h51 (Instr.loadAt T_sl_api_Item v50)) fun v57 => k56 v57 h51) h51 fun v54 h55 =>
 gopV (yV v45) false (fun k60 => popO (SemP PG (Builtin.len_ #[T_sl_api_Item] T_int #[v54])) fun v61 => k60 v61 h55) h55 fun v58 h59 =>
 gopV (yV v45) false (fun k64 => popO (SemP PG (binOp BinOp.gtr T_int v58 (Value.int IntKind.i64 40))) fun v65 => k64 v65 h59) h59 fun v62 h63 =>
 popO (pickV v45 (Value.bool true) v62) fun v66 =>
 gopV (yV v66) false (fun k69 => popO (SemP PG (Instr.fieldAt T_api_Record (Value.pointer (some ⟨r1, 0, none⟩)) 2)) fun v70 => k69 v70 h63) h63 fun v67 h68 =>
 gopV (yV v66) false (fun k73 => popO (SemE PG h68 (Instr.loadAt T_int v67)) fun v74 => k73 v74 h68) h68 fun v71 h72 =>
 gopV (yV v66) false (fun k77 => popO (SemE PG h72 (binS BinOp.neq T_int (.tmp 60) (.const (Value.int IntKind.i64 0)) v71 (Value.int IntKind.i64 0))) fun v78 => k77 v78 h72) h72 fun v75 h76 =>
 popO (pickV v66 (Value.bool true) v75) fun v79 =>
 gopV (yV v79) false (fun k82 => popO (SemP PG (Instr.fieldAt T_api_Record (Value.pointer (some ⟨r1, 0, none⟩)) 3)) fun v83 => k82 v83 h76) h76 fun v80 h81 =>
 gopV (yV v79) false (fun k86 => popO (SemP PG (Instr.fieldAt T_api_Place v80 0)) fun v87 => k86 v87 h81) h81 fun v84 h85 =>
 gopV (yV v79) false (fun k90 => popO (SemE PG h85 (Instr.loadAt T_uint64 v84)) fun v91 => k90 v91 h85) h85 fun v88 h89 =>
 gopV (yV v79) false (fun k94 => popO (SemE PG h89 (binS BinOp.neq T_uint64 (.tmp 66) (.const (Value.int IntKind.u64 0)) v88 (Value.int IntKind.u64 0))) fun v95 => k94 v95 h89) h89 fun v92 h93 =>
 popO (pickV v79 (Value.bool true) v92) fun v96 =>
 gopV (yV v96) false (fun k99 => popO (SemP PG (Instr.fieldAt T_api_Record (Value.pointer (some ⟨r1, 0, none⟩)) 3)) fun v100 => k99 v100 h93) h93 fun v97 h98 =>
 gopV (yV v96) false (fun k103 => popO (SemP PG (Instr.fieldAt T_api_Place v97 1)) fun v104 => k103 v104 h98) h98 fun v101 h102 =>
 gopV (yV v96) false (fun k107 => popO (SemE PG h102 (Instr.loadAt T_int v101)) fun v108 => k107 v108 h102) h102 fun v105 h106 =>
 gopV (yV v96) false (fun k111 => popO (SemE PG h106 (binS BinOp.neq T_int (.tmp 72) (.const (Value.int IntKind.i64 0)) v105 (Value.int IntKind.i64 0))) fun v112 => k111 v112 h106) h106 fun v109 h110 =>
 popO (pickV v96 (Value.bool true) v109) fun v113 =>
 gopV (yV v113) false (fun k116 => popO (SemP PG (Instr.fieldAt T_api_Record (Value.pointer (some ⟨r1, 0, none⟩)) 4)) fun v117 => k116 v117 h110) h110 fun v114 h115 =>
 gopV (yV v113) false (fun k120 => popO (SemE PG h115 (Instr.loadAt T_sl_api_Note v114)) fun v121 => k120 v121 h115) h115 fun v118 h119 =>
 gopV (yV v113) false (fun k124 => popO (SemP PG (Builtin.len_ #[T_sl_api_Note] T_int #[v118])) fun v125 => k124 v125 h119) h119 fun v122 h123 =>
 gopV (yV v113) false (fun k128 => popO (SemP PG (binOp BinOp.gtr T_int v122 (Value.int IntKind.i64 0))) fun v129 => k128 v129 h123) h123 fun v126 h127 =>
 popO (pickV v113 (Value.bool true) v126) fun v130 =>
 condV v130
 (R (Value.tuple #[(Value.string { data := #[] }), (Value.int IntKind.i64 1)]) h127)
 (popO (SemP PG (binOp BinOp.add T_string (Value.string { data := #[1] }) v12)) fun v131 =>
 popO (SemP PG (binOp BinOp.add T_string v131 v20)) fun v132 =>
 popO (SemP PG (binOp BinOp.add T_string v132 v27)) fun v133 =>
 R (Value.tuple #[v133, (Value.int IntKind.i64 0)]) h127))
 (popO (SemE PG h2 (binS BinOp.eql T_int (.tmp 15) (.const (Value.int IntKind.i64 2)) v4 (Value.int IntKind.i64 2))) fun v134 =>
 condV v134
 (popO (SemP PG (Instr.fieldAt T_api_Record (Value.pointer (some ⟨r1, 0, none⟩)) 3)) fun v135 =>
 popO (SemE PG h2 (Instr.loadAt T_api_Place v135)) fun v136 =>
 CallsH PG id_carrackref14_Place #[v136] h2 fun v137 h138 =>
 popO (SemP PG (Instr.extract v137 0)) fun v139 =>
 popO (SemP PG (Instr.extract v137 1)) fun v140 =>
 popO (SemP PG (Instr.fieldAt T_api_Record (Value.pointer (some ⟨r1, 0, none⟩)) 4)) fun v141 =>
 popO (SemE PG h138 (Instr.loadAt T_sl_api_Note v141)) fun v142 =>
 CallsH PG id_carrackref14_Notes #[v142] h138 fun v143 h144 =>
 popO (SemP PG (Instr.extract v143 0)) fun v145 =>
 popO (SemP PG (Instr.extract v143 1)) fun v146 =>
 popO (SemE PG h144 (binS BinOp.neq T_int (.tmp 101) (.const (Value.int IntKind.i64 0)) v140 (Value.int IntKind.i64 0))) fun v147 =>
 gopV (yV v147) false (fun k150 => k150 v146 h144) h144 fun v148 h149 =>
 gopV (yV v147) false (fun k153 => popO (SemE PG h149 (binS BinOp.neq T_int (.tmp 104) (.const (Value.int IntKind.i64 0)) v148 (Value.int IntKind.i64 0))) fun v154 => k153 v154 h149) h149 fun v151 h152 =>
 popO (pickV v147 (Value.bool true) v151) fun v155 =>
 gopV (yV v155) false (fun k158 => popO (SemP PG (Instr.fieldAt T_api_Record (Value.pointer (some ⟨r1, 0, none⟩)) 4)) fun v159 => k158 v159 h152) h152 fun v156 h157 =>
 gopV (yV v155) false (fun k162 => popO (SemE PG h157 (Instr.loadAt T_sl_api_Note v156)) fun v163 => k162 v163 h157) h157 fun v160 h161 =>
 gopV (yV v155) false (fun k166 => popO (SemP PG (Builtin.len_ #[T_sl_api_Note] T_int #[v160])) fun v167 => k166 v167 h161) h161 fun v164 h165 =>
 gopV (yV v155) false (fun k170 => popO (SemP PG (binOp BinOp.gtr T_int v164 (Value.int IntKind.i64 16))) fun v171 => k170 v171 h165) h165 fun v168 h169 =>
 popO (pickV v155 (Value.bool true) v168) fun v172 =>
 gopV (yV v172) false (fun k175 => popO (SemP PG (Instr.fieldAt T_api_Record (Value.pointer (some ⟨r1, 0, none⟩)) 2)) fun v176 => k175 v176 h169) h169 fun v173 h174 =>
 gopV (yV v172) false (fun k179 => popO (SemE PG h174 (Instr.loadAt T_int v173)) fun v180 => k179 v180 h174) h174 fun v177 h178 =>
 gopV (yV v172) false (fun k183 => popO (SemP PG (binOp BinOp.lss T_int v177 (Value.int IntKind.i64 0))) fun v184 => k183 v184 h178) h178 fun v181 h182 =>
 popO (pickV v172 (Value.bool true) v181) fun v185 =>
 gopV (yV v185) false (fun k188 => popO (SemP PG (Instr.fieldAt T_api_Record (Value.pointer (some ⟨r1, 0, none⟩)) 2)) fun v189 => k188 v189 h182) h182 fun v186 h187 =>
 gopV (yV v185) false (fun k192 => popO (SemE PG h187 (Instr.loadAt T_int v186)) fun v193 => k192 v193 h187) h187 fun v190 h191 =>
 gopV (yV v185) false (fun k196 => popO (SemP PG (binOp BinOp.gtr T_int v190 (Value.int IntKind.i64 1))) fun v197 => k196 v197 h191) h191 fun v194 h195 =>
 popO (pickV v185 (Value.bool true) v194) fun v198 =>
 gopV (yV v198) false (fun k201 => popO (SemP PG (Instr.fieldAt T_api_Record (Value.pointer (some ⟨r1, 0, none⟩)) 1)) fun v202 => k201 v202 h195) h195 fun v199 h200 =>
 gopV (yV v198) false (fun k205 => popO (SemP PG (Instr.fieldAt T_api_Daemon v199 1)) fun v206 => k205 v206 h200) h200 fun v203 h204 =>
 gopV (yV v198) false (fun k209 => popO (SemE PG h204 (Instr.loadAt T_sl_api_Item v203)) fun v210 => k209 v210 h204) h204 fun v207 h208 =>
 gopV (yV v198) false (fun k213 => popO (SemP PG (Builtin.len_ #[T_sl_api_Item] T_int #[v207])) fun v214 => k213 v214 h208) h208 fun v211 h212 =>
 gopV (yV v198) false (fun k217 => popO (SemP PG (binOp BinOp.gtr T_int v211 (Value.int IntKind.i64 0))) fun v218 => k217 v218 h212) h212 fun v215 h216 =>
 popO (pickV v198 (Value.bool true) v215) fun v219 =>
 gopV (yV v219) false (fun k222 => popO (SemP PG (Instr.fieldAt T_api_Record (Value.pointer (some ⟨r1, 0, none⟩)) 1)) fun v223 => k222 v223 h216) h216 fun v220 h221 =>
 gopV (yV v219) false (fun k226 => popO (SemP PG (Instr.fieldAt T_api_Daemon v220 0)) fun v227 => k226 v227 h221) h221 fun v224 h225 =>
 gopV (yV v219) false (fun k230 => popO (SemE PG h225 (Instr.loadAt T_2_api_Place v224)) fun v231 => k230 v231 h225) h225 fun v228 h229 =>
 gopV (yV v219) false (fun k234 => popO (SemP PG (Instr.build T_2_api_Place #[])) fun v235 => k234 v235 h229) h229 fun v232 h233 =>
 gopV (yV v219) false (fun k238 => popO (SemE PG h233 (binS BinOp.neq T_2_api_Place (.tmp 133) (.tmp 134) v228 v232)) fun v239 => k238 v239 h233) h233 fun v236 h237 =>
 popO (pickV v219 (Value.bool true) v236) fun v240 =>
 condV v240
 (R (Value.tuple #[(Value.string { data := #[] }), (Value.int IntKind.i64 1)]) h237)
 (popO (SemP PG (Instr.fieldAt T_api_Record (Value.pointer (some ⟨r1, 0, none⟩)) 2)) fun v241 =>
 popO (SemE PG h237 (Instr.loadAt T_int v241)) fun v242 =>
 popO (SemP PG (convert T_int T_uint64 v242)) fun v243 =>
 CallsH PG id_carrackref03_Bytes #[v243, (Value.int IntKind.i64 1)] h237 fun v244 h245 =>
 popO (SemP PG (binOp BinOp.add T_string (Value.string { data := #[2] }) v244)) fun v246 =>
 popO (SemP PG (binOp BinOp.add T_string v246 v139)) fun v247 =>
 popO (SemP PG (binOp BinOp.add T_string v247 v145)) fun v248 =>
 R (Value.tuple #[v248, (Value.int IntKind.i64 0)]) h245))
 (R (Value.tuple #[(Value.string { data := #[] }), (Value.int IntKind.i64 1)]) h2))
def carrackref17_Bytes.ann : Ann := { b := fun i => match i with  | _ => #[], ord := fun i => match i with  | _ => [], keep := fun i => match i with  | _ => [], n := 146 }
theorem carrackref17_Bytes.eq (t0 : Value) (h0 : PH) (R : Value → PH → Prop) : codeF PG carrackref17_Bytes.ann 200 (bodyOf Tryz.f17) (endH PG Tryz.f17 R) (fun t => (#[t0] : Array Value).getD t undef) h0 = carrackref17_Bytes t0 h0 R := by kernel_rfl
theorem carrackref17_Bytes.call {t0 : Value} {h0 : PH} {R : Value → PH → Prop} (H : carrackref17_Bytes t0 h0 R) : CallsH PG id_carrackref17_Bytes #[t0] h0 R :=
  callsF_by carrackref17_Bytes.ann 200 mix Tryz.func17 (by kernel_rfl) (by kernel_rfl) (by kernel_rfl) (by kernel_rfl) (by simp [Tryz.ntmps17]) (carrackref17_Bytes.eq t0 h0 R) H

def carrackref14_Place (t0 : Value) (h0 : PH) (R : Value → PH → Prop) : Prop :=
 ∀ r1, h0 r1 = none → bindH (PH.set h0 r1 (.cells (Value.cells t0) T_api_Place)) fun h2 =>
 popO (SemP PG (Instr.fieldAt T_api_Place (Value.pointer (some ⟨r1, 0, none⟩)) 1)) fun v3 =>
 popO (SemE PG h2 (Instr.loadAt T_int v3)) fun v4 =>
 popO (SemP PG (binOp BinOp.lss T_int v4 (Value.int IntKind.i64 0))) fun v5 =>
 gopV (yV v5) false (fun k8 => popO (SemP PG (Instr.fieldAt T_api_Place (Value.pointer (some ⟨r1, 0, none⟩)) 1)) fun v9 => k8 v9 h2) h2 fun v6 h7 =>
 gopV (yV v5) false (fun k12 => popO (SemE PG h7 (Instr.loadAt T_int v6)) fun v13 => k12 v13 h7) h7 fun v10 h11 =>
 gopV (yV v5) false (fun k16 => popO (SemP PG (binOp BinOp.gtr T_int v10 (Value.int IntKind.i64 65535))) fun v17 => k16 v17 h11) h11 fun v14 h15 =>
 popO (pickV v5 (Value.bool true) v14) fun v18 =>
 condV v18
 (R (Value.tuple #[(Value.string { data := #[] }), (Value.int IntKind.i64 1)]) h15)
 (popO (SemP PG (Instr.fieldAt T_api_Place (Value.pointer (some ⟨r1, 0, none⟩)) 0)) fun v19 =>
 popO (SemE PG h15 (Instr.loadAt T_uint64 v19)) fun v20 =>
 popO (SemP PG (Instr.fieldAt T_api_Place (Value.pointer (some ⟨r1, 0, none⟩)) 1)) fun v21 =>
 popO (SemE PG h15 (Instr.loadAt T_int v21)) fun v22 =>
 popO (SemP PG (convert T_int T_uint64 v22)) fun v23 =>
 CallsH PG id_carrackref03_Bytes #[v20, (Value.int IntKind.i64 8)] h15 fun v24 h25 =>
 SemE PG h25 (Instr.loadAt T_int v21) = some v22 ∧ (CallsH PG id_carrackref03_Bytes #[v23, (Value.int IntKind.i64 8)] h25 fun v26 h27 =>
 (popO (SemP PG (binOp BinOp.add T_string v24 v26)) fun v28 =>
 R (Value.tuple #[v28, (Value.int IntKind.i64 0)]) h27)))
def carrackref14_Place.ann : Ann := { b := fun i => match i with | 3 => #[0, 1, 3, 0, 8, 24, 63, 127, 255, 511] | _ => #[], ord := fun i => match i with | 3 => [0, 1, 3, 4, 5, 2, 6, 7, 8, 9] | _ => [], keep := fun i => match i with  | _ => [], n := 20 }
theorem carrackref14_Place.eq (t0 : Value) (h0 : PH) (R : Value → PH → Prop) : codeF PG carrackref14_Place.ann 200 (bodyOf Tryz.f43) (endH PG Tryz.f43 R) (fun t => (#[t0] : Array Value).getD t undef) h0 = carrackref14_Place t0 h0 R := by kernel_rfl
theorem carrackref14_Place.call {t0 : Value} {h0 : PH} {R : Value → PH → Prop} (H : carrackref14_Place t0 h0 R) : CallsH PG id_carrackref14_Place #[t0] h0 R :=
  callsF_by carrackref14_Place.ann 200 mix Tryz.func43 (by kernel_rfl) (by kernel_rfl) (by kernel_rfl) (by kernel_rfl) (by simp [Tryz.ntmps43]) (carrackref14_Place.eq t0 h0 R) H

def carrackref03_Bytes_b2 (R : Value → PH → Prop) (n1 : List Value → PH → Prop) (t0 : Value) (t1 : Value) (t5 : Value) (t6 : Value) (h0 : PH) : Prop :=
 popO (SemP PG (binOp BinOp.lss T_int t6 t1)) fun v3 =>
 condV v3
 (popO (SemP PG (binOp BinOp.rem T_uint64 t0 (Value.int IntKind.u64 256))) fun v4 =>
 popO (SemP PG (convert T_uint64 T_uint8 v4)) fun v5 =>
 popO (SemA PG (Instr.buildSlice T_sl_uint8 1 #[(0, v5)])) fun x7 => ∀ r6, h0 r6 = none → popO (SemP PG (x7.2 r6)) fun v8 => bindH (PH.set h0 r6 x7.1) fun h9 =>
 popO (SemE PG h9 (convert T_sl_uint8 T_string v8)) fun v10 =>
 popO (SemP PG (binOp BinOp.add T_string v10 t5)) fun v11 =>
 popO (SemP PG (binOp BinOp.quo T_uint64 t0 (Value.int IntKind.u64 256))) fun v12 =>
 popO (SemP PG (binOp BinOp.add T_int t6 (Value.int IntKind.i64 1))) fun v13 =>
 n1 [v12, t1, v11, v13] h9)
 (R t5 h0)
def carrackref03_Bytes (t0 : Value) (t1 : Value) (h0 : PH) (R : Value → PH → Prop) : Prop :=
 LoopL [0, 1, 5, 6] (fun n1 ρ h => carrackref03_Bytes_b2 R n1 (ρ 0) (ρ 1) (ρ 5) (ρ 6) h) [t0, t1, (Value.string { data := #[] }), (Value.int IntKind.i64 0)] h0
def carrackref03_Bytes.ann : Ann := { b := fun i => match i with  | _ => #[], ord := fun i => match i with  | _ => [], keep := fun i => match i with | 3 => [0, 1, 5, 6] | _ => [], n := 22 }
theorem carrackref03_Bytes.eq (t0 : Value) (t1 : Value) (h0 : PH) (R : Value → PH → Prop) : codeF PG carrackref03_Bytes.ann 200 (bodyOf Tryz.f46) (endH PG Tryz.f46 R) (fun t => (#[t0, t1] : Array Value).getD t undef) h0 = carrackref03_Bytes t0 t1 h0 R := by kernel_rfl
theorem carrackref03_Bytes.call {t0 : Value} {t1 : Value} {h0 : PH} {R : Value → PH → Prop} (H : carrackref03_Bytes t0 t1 h0 R) : CallsH PG id_carrackref03_Bytes #[t0, t1] h0 R :=
  callsF_by carrackref03_Bytes.ann 200 mix Tryz.func46 (by kernel_rfl) (by kernel_rfl) (by kernel_rfl) (by kernel_rfl) (by simp [Tryz.ntmps46]) (carrackref03_Bytes.eq t0 t1 h0 R) H

def carrackref14_Items_b8 (R : Value → PH → Prop) (n7 : List Value → PH → Prop) (t0 : Value) (t4 : Value) (t5 : Value) (h0 : PH) : Prop :=
 popO (SemP PG (Builtin.len_ #[T_sl_api_Item] T_int #[t0])) fun v9 =>
 popO (SemP PG (binOp BinOp.lss T_int t5 v9)) fun v10 =>
 condV v10
 (popO (SemP PG (Instr.indexAt T_sl_api_Item t0 t5)) fun v11 =>
 popO (SemE PG h0 (Instr.loadAt T_api_Item v11)) fun v12 =>
 CallsH PG id_carrackref14_RightItem #[v12] h0 fun v13 h14 =>
 popO (SemP PG (Op.unary UnOp.not v13)) fun v15 =>
 condV v15
 (R (Value.tuple #[(Value.string { data := #[] }), (Value.int IntKind.i64 1)]) h14)
 (popO (SemP PG (Instr.indexAt T_sl_api_Item t0 t5)) fun v16 =>
 popO (SemP PG (Instr.fieldAt T_api_Item v16 1)) fun v17 =>
 popO (SemE PG h14 (Instr.loadAt T_int v17)) fun v18 =>
 popO (SemP PG (convert T_int T_uint64 v18)) fun v19 =>
 popO (SemP PG (Instr.indexAt T_sl_api_Item t0 t5)) fun v20 =>
 popO (SemP PG (Instr.fieldAt T_api_Item v20 0)) fun v21 =>
 popO (SemE PG h14 (Instr.loadAt T_api_Packet v21)) fun v22 =>
 CallsH PG id_carrackref03_Bytes #[v19, (Value.int IntKind.i64 1)] h14 fun v23 h24 =>
 SemE PG h24 (Instr.loadAt T_api_Packet v21) = some v22 ∧ (popO (SemP PG (binOp BinOp.add T_string t4 v23)) fun v25 =>
 CallsH PG id_carrackref10_Bytes #[v22] h24 fun v26 h27 =>
 (popO (SemP PG (binOp BinOp.add T_string v25 v26)) fun v28 =>
 popO (SemP PG (binOp BinOp.add T_int t5 (Value.int IntKind.i64 1))) fun v29 =>
 n7 [t0, v28, v29] h27))))
 (R (Value.tuple #[t4, (Value.int IntKind.i64 0)]) h0)
def carrackref14_Items (t0 : Value) (h0 : PH) (R : Value → PH → Prop) : Prop :=
 popO (SemP PG (Builtin.len_ #[T_sl_api_Item] T_int #[t0])) fun v1 =>
 popO (SemP PG (binOp BinOp.gtr T_int v1 (Value.int IntKind.i64 255))) fun v2 =>
 condV v2
 (R (Value.tuple #[(Value.string { data := #[] }), (Value.int IntKind.i64 1)]) h0)
 (popO (SemP PG (Builtin.len_ #[T_sl_api_Item] T_int #[t0])) fun v3 =>
 popO (SemP PG (convert T_int T_uint64 v3)) fun v4 =>
 CallsH PG id_carrackref03_Bytes #[v4, (Value.int IntKind.i64 1)] h0 fun v5 h6 =>
 LoopL [0, 4, 5] (fun n7 ρ h => carrackref14_Items_b8 R n7 (ρ 0) (ρ 4) (ρ 5) h) [t0, v5, (Value.int IntKind.i64 0)] h6)
def carrackref14_Items.ann : Ann := { b := fun i => match i with | 9 => #[0, 0, 0, 6, 14, 30, 62, 126, 255, 0, 0, 1536, 3584, 7680, 16126, 32767, 65535] | _ => #[], ord := fun i => match i with | 9 => [0, 1, 2, 3, 4, 5, 6, 9, 10, 11, 12, 13, 7, 8, 14, 15, 16] | _ => [], keep := fun i => match i with | 5 => [0, 4, 5] | _ => [], n := 42 }
theorem carrackref14_Items.eq (t0 : Value) (h0 : PH) (R : Value → PH → Prop) : codeF PG carrackref14_Items.ann 200 (bodyOf Tryz.f44) (endH PG Tryz.f44 R) (fun t => (#[t0] : Array Value).getD t undef) h0 = carrackref14_Items t0 h0 R := by kernel_rfl
theorem carrackref14_Items.call {t0 : Value} {h0 : PH} {R : Value → PH → Prop} (H : carrackref14_Items t0 h0 R) : CallsH PG id_carrackref14_Items #[t0] h0 R :=
  callsF_by carrackref14_Items.ann 200 mix Tryz.func44 (by kernel_rfl) (by kernel_rfl) (by kernel_rfl) (by kernel_rfl) (by simp [Tryz.ntmps44]) (carrackref14_Items.eq t0 h0 R) H

def carrackref10_Bytes (t0 : Value) (h0 : PH) (R : Value → PH → Prop) : Prop :=
 ∀ r1, h0 r1 = none → bindH (PH.set h0 r1 (.cells (Value.cells t0) T_api_Packet)) fun h2 =>
 popO (SemP PG (Instr.fieldAt T_api_Packet (Value.pointer (some ⟨r1, 0, none⟩)) 0)) fun v3 =>
 popO (SemE PG h2 (Instr.loadAt T_int v3)) fun v4 =>
 popO (SemP PG (convert T_int T_uint64 v4)) fun v5 =>
 popO (SemP PG (Instr.fieldAt T_api_Packet (Value.pointer (some ⟨r1, 0, none⟩)) 1)) fun v6 =>
 popO (SemE PG h2 (Instr.loadAt T_uint64 v6)) fun v7 =>
 popO (SemP PG (Instr.fieldAt T_api_Packet (Value.pointer (some ⟨r1, 0, none⟩)) 2)) fun v8 =>
 popO (SemE PG h2 (Instr.loadAt T_uint64 v8)) fun v9 =>
 popO (SemP PG (Instr.fieldAt T_api_Packet (Value.pointer (some ⟨r1, 0, none⟩)) 3)) fun v10 =>
 popO (SemE PG h2 (Instr.loadAt T_string v10)) fun v11 =>
 popO (SemP PG (Builtin.len_ #[T_string] T_int #[v11])) fun v12 =>
 popO (SemP PG (convert T_int T_uint64 v12)) fun v13 =>
 popO (SemP PG (Instr.fieldAt T_api_Packet (Value.pointer (some ⟨r1, 0, none⟩)) 3)) fun v14 =>
 popO (SemE PG h2 (Instr.loadAt T_string v14)) fun v15 =>
 CallsH PG id_carrackref03_Bytes #[v5, (Value.int IntKind.i64 1)] h2 fun v16 h17 =>
 SemE PG h17 (Instr.loadAt T_string v14) = some v15 ∧ SemE PG h17 (Instr.loadAt T_string v10) = some v11 ∧ SemE PG h17 (Instr.loadAt T_uint64 v8) = some v9 ∧ SemE PG h17 (Instr.loadAt T_uint64 v6) = some v7 ∧ (CallsH PG id_carrackref03_Bytes #[v7, (Value.int IntKind.i64 8)] h17 fun v18 h19 =>
 SemE PG h19 (Instr.loadAt T_string v14) = some v15 ∧ SemE PG h19 (Instr.loadAt T_string v10) = some v11 ∧ SemE PG h19 (Instr.loadAt T_uint64 v8) = some v9 ∧ (popO (SemP PG (binOp BinOp.add T_string v16 v18)) fun v20 =>
 CallsH PG id_carrackref03_Bytes #[v9, (Value.int IntKind.i64 8)] h19 fun v21 h22 =>
 SemE PG h22 (Instr.loadAt T_string v14) = some v15 ∧ SemE PG h22 (Instr.loadAt T_string v10) = some v11 ∧ (popO (SemP PG (binOp BinOp.add T_string v20 v21)) fun v23 =>
 CallsH PG id_carrackref03_Bytes #[v13, (Value.int IntKind.i64 2)] h22 fun v24 h25 =>
 SemE PG h25 (Instr.loadAt T_string v14) = some v15 ∧ (popO (SemP PG (binOp BinOp.add T_string v23 v24)) fun v26 =>
 popO (SemP PG (binOp BinOp.add T_string v26 v15)) fun v27 =>
 R v27 h25))))
def carrackref10_Bytes.ann : Ann := { b := fun i => match i with | 1 => #[0, 1, 3, 7, 0, 16, 63, 127, 0, 256, 895, 2047, 0, 4096, 12288, 28672, 63359, 131071, 0, 262144, 1048575, 2097151] | _ => #[], ord := fun i => match i with | 1 => [0, 1, 2, 4, 5, 8, 9, 12, 13, 14, 15, 18, 19, 3, 6, 7, 10, 11, 16, 17, 20, 21] | _ => [], keep := fun i => match i with  | _ => [], n := 24 }
theorem carrackref10_Bytes.eq (t0 : Value) (h0 : PH) (R : Value → PH → Prop) : codeF PG carrackref10_Bytes.ann 200 (bodyOf Tryz.f78) (endH PG Tryz.f78 R) (fun t => (#[t0] : Array Value).getD t undef) h0 = carrackref10_Bytes t0 h0 R := by kernel_rfl
theorem carrackref10_Bytes.call {t0 : Value} {h0 : PH} {R : Value → PH → Prop} (H : carrackref10_Bytes t0 h0 R) : CallsH PG id_carrackref10_Bytes #[t0] h0 R :=
  callsF_by carrackref10_Bytes.ann 200 mix Tryz.func78 (by kernel_rfl) (by kernel_rfl) (by kernel_rfl) (by kernel_rfl) (by simp [Tryz.ntmps78]) (carrackref10_Bytes.eq t0 h0 R) H

def carrackref14_Notes_b8 (R : Value → PH → Prop) (n7 : List Value → PH → Prop) (t0 : Value) (t4 : Value) (t5 : Value) (h0 : PH) : Prop :=
 popO (SemP PG (Builtin.len_ #[T_sl_api_Note] T_int #[t0])) fun v9 =>
 popO (SemP PG (binOp BinOp.lss T_int t5 v9)) fun v10 =>
 condV v10
 (popO (SemP PG (Instr.indexAt T_sl_api_Note t0 t5)) fun v11 =>
 popO (SemE PG h0 (Instr.loadAt T_api_Note v11)) fun v12 =>
 CallsH PG id_carrackref14_Right #[v12] h0 fun v13 h14 =>
 popO (SemP PG (Op.unary UnOp.not v13)) fun v15 =>
 condV v15
 (R (Value.tuple #[(Value.string { data := #[] }), (Value.int IntKind.i64 1)]) h14)
 (popO (SemP PG (Instr.indexAt T_sl_api_Note t0 t5)) fun v16 =>
 popO (SemP PG (Instr.fieldAt T_api_Note v16 0)) fun v17 =>
 popO (SemE PG h14 (Instr.loadAt T_int v17)) fun v18 =>
 popO (SemP PG (convert T_int T_uint64 v18)) fun v19 =>
 popO (SemP PG (Instr.indexAt T_sl_api_Note t0 t5)) fun v20 =>
 popO (SemP PG (Instr.fieldAt T_api_Note v20 1)) fun v21 =>
 popO (SemE PG h14 (Instr.loadAt T_api_Packet v21)) fun v22 =>
 CallsH PG id_carrackref03_Bytes #[v19, (Value.int IntKind.i64 1)] h14 fun v23 h24 =>
 SemE PG h24 (Instr.loadAt T_api_Packet v21) = some v22 ∧ (popO (SemP PG (binOp BinOp.add T_string t4 v23)) fun v25 =>
 CallsH PG id_carrackref10_Bytes #[v22] h24 fun v26 h27 =>
 (popO (SemP PG (binOp BinOp.add T_string v25 v26)) fun v28 =>
 popO (SemP PG (binOp BinOp.add T_int t5 (Value.int IntKind.i64 1))) fun v29 =>
 n7 [t0, v28, v29] h27))))
 (R (Value.tuple #[t4, (Value.int IntKind.i64 0)]) h0)
def carrackref14_Notes (t0 : Value) (h0 : PH) (R : Value → PH → Prop) : Prop :=
 popO (SemP PG (Builtin.len_ #[T_sl_api_Note] T_int #[t0])) fun v1 =>
 popO (SemP PG (binOp BinOp.gtr T_int v1 (Value.int IntKind.i64 255))) fun v2 =>
 condV v2
 (R (Value.tuple #[(Value.string { data := #[] }), (Value.int IntKind.i64 1)]) h0)
 (popO (SemP PG (Builtin.len_ #[T_sl_api_Note] T_int #[t0])) fun v3 =>
 popO (SemP PG (convert T_int T_uint64 v3)) fun v4 =>
 CallsH PG id_carrackref03_Bytes #[v4, (Value.int IntKind.i64 1)] h0 fun v5 h6 =>
 LoopL [0, 4, 5] (fun n7 ρ h => carrackref14_Notes_b8 R n7 (ρ 0) (ρ 4) (ρ 5) h) [t0, v5, (Value.int IntKind.i64 0)] h6)
def carrackref14_Notes.ann : Ann := { b := fun i => match i with | 9 => #[0, 0, 0, 6, 14, 30, 62, 126, 255, 0, 0, 1536, 3584, 7680, 16126, 32767, 65535] | _ => #[], ord := fun i => match i with | 9 => [0, 1, 2, 3, 4, 5, 6, 9, 10, 11, 12, 13, 7, 8, 14, 15, 16] | _ => [], keep := fun i => match i with | 5 => [0, 4, 5] | _ => [], n := 42 }
theorem carrackref14_Notes.eq (t0 : Value) (h0 : PH) (R : Value → PH → Prop) : codeF PG carrackref14_Notes.ann 200 (bodyOf Tryz.f45) (endH PG Tryz.f45 R) (fun t => (#[t0] : Array Value).getD t undef) h0 = carrackref14_Notes t0 h0 R := by kernel_rfl
theorem carrackref14_Notes.call {t0 : Value} {h0 : PH} {R : Value → PH → Prop} (H : carrackref14_Notes t0 h0 R) : CallsH PG id_carrackref14_Notes #[t0] h0 R :=
  callsF_by carrackref14_Notes.ann 200 mix Tryz.func45 (by kernel_rfl) (by kernel_rfl) (by kernel_rfl) (by kernel_rfl) (by simp [Tryz.ntmps45]) (carrackref14_Notes.eq t0 h0 R) H

def carrackref14_Right (t0 : Value) (h0 : PH) (R : Value → PH → Prop) : Prop :=
 ∀ r1, h0 r1 = none → bindH (PH.set h0 r1 (.cells (Value.cells t0) T_api_Note)) fun h2 =>
 popO (SemP PG (Instr.fieldAt T_api_Note (Value.pointer (some ⟨r1, 0, none⟩)) 0)) fun v3 =>
 popO (SemE PG h2 (Instr.loadAt T_int v3)) fun v4 =>
 popO (SemP PG (binOp BinOp.geq T_int v4 (Value.int IntKind.i64 1))) fun v5 =>
 gopV (yV v5) true (fun k8 => popO (SemP PG (Instr.fieldAt T_api_Note (Value.pointer (some ⟨r1, 0, none⟩)) 0)) fun v9 => k8 v9 h2) h2 fun v6 h7 =>
 gopV (yV v5) true (fun k12 => popO (SemE PG h7 (Instr.loadAt T_int v6)) fun v13 => k12 v13 h7) h7 fun v10 h11 =>
 gopV (yV v5) true (fun k16 => popO (SemP PG (binOp BinOp.leq T_int v10 (Value.int IntKind.i64 4))) fun v17 => k16 v17 h11) h11 fun v14 h15 =>
 popO (pickV v5 v14 (Value.bool false)) fun v18 =>
 gopV (yV v18) true (fun k21 => popO (SemP PG (Instr.fieldAt T_api_Note (Value.pointer (some ⟨r1, 0, none⟩)) 1)) fun v22 => k21 v22 h15) h15 fun v19 h20 =>
 gopV (yV v18) true (fun k25 => popO (SemE PG h20 (Instr.loadAt T_api_Packet v19)) fun v26 => k25 v26 h20) h20 fun v23 h24 =>
 gopV (yV v18) true (fun k29 => CallsH PG id_carrackref10_Right #[v23] h24 fun v30 h31 => k29 v30 h31) h24 fun v27 h28 =>
 popO (pickV v18 v27 (Value.bool false)) fun v32 =>
 R v32 h28
def carrackref14_Right.ann : Ann := { b := fun i => match i with  | _ => #[], ord := fun i => match i with  | _ => [], keep := fun i => match i with  | _ => [], n := 16 }
theorem carrackref14_Right.eq (t0 : Value) (h0 : PH) (R : Value → PH → Prop) : codeF PG carrackref14_Right.ann 200 (bodyOf Tryz.f79) (endH PG Tryz.f79 R) (fun t => (#[t0] : Array Value).getD t undef) h0 = carrackref14_Right t0 h0 R := by kernel_rfl
theorem carrackref14_Right.call {t0 : Value} {h0 : PH} {R : Value → PH → Prop} (H : carrackref14_Right t0 h0 R) : CallsH PG id_carrackref14_Right #[t0] h0 R :=
  callsF_by carrackref14_Right.ann 200 mix Tryz.func79 (by kernel_rfl) (by kernel_rfl) (by kernel_rfl) (by kernel_rfl) (by simp [Tryz.ntmps79]) (carrackref14_Right.eq t0 h0 R) H

def carrackref16_Apply_b2 (R : Value → PH → Prop) (n1 : List Value → PH → Prop) (t0 : Value) (t1 : Value) (t6 : Value) (h0 : PH) : Prop :=
 popO (SemP PG (Builtin.len_ #[T_sl_api_Note] T_int #[t1])) fun v3 =>
 popO (SemP PG (binOp BinOp.lss T_int t6 v3)) fun v4 =>
 condV v4
 (popO (SemP PG (Instr.indexAt T_sl_api_Note t1 t6)) fun v5 =>
 popO (SemE PG h0 (Instr.loadAt T_api_Note v5)) fun v6 =>
 CallsH PG id_carrackref15_Table_Apply #[t0, v6] h0 fun v7 h8 =>
 popO (SemE PG h8 (binS BinOp.neq T_int (.tmp 20) (.const (Value.int IntKind.i64 0)) v7 (Value.int IntKind.i64 0))) fun v9 =>
 condV v9
 (R (Value.tuple #[t6, v7]) h8)
 (popO (SemP PG (binOp BinOp.add T_int t6 (Value.int IntKind.i64 1))) fun v10 =>
 n1 [t0, t1, v10] h8))
 (popO (SemP PG (Builtin.len_ #[T_sl_api_Note] T_int #[t1])) fun v11 =>
 R (Value.tuple #[v11, (Value.int IntKind.i64 0)]) h0)
def carrackref16_Apply (t0 : Value) (t1 : Value) (h0 : PH) (R : Value → PH → Prop) : Prop :=
 LoopL [0, 1, 6] (fun n1 ρ h => carrackref16_Apply_b2 R n1 (ρ 0) (ρ 1) (ρ 6) h) [t0, t1, (Value.int IntKind.i64 0)] h0
def carrackref16_Apply.ann : Ann := { b := fun i => match i with  | _ => #[], ord := fun i => match i with  | _ => [], keep := fun i => match i with | 2 => [0, 1, 6] | _ => [], n := 26 }
theorem carrackref16_Apply.eq (t0 : Value) (t1 : Value) (h0 : PH) (R : Value → PH → Prop) : codeF PG carrackref16_Apply.ann 200 (bodyOf Tryz.f19) (endH PG Tryz.f19 R) (fun t => (#[t0, t1] : Array Value).getD t undef) h0 = carrackref16_Apply t0 t1 h0 R := by kernel_rfl
theorem carrackref16_Apply.call {t0 : Value} {t1 : Value} {h0 : PH} {R : Value → PH → Prop} (H : carrackref16_Apply t0 t1 h0 R) : CallsH PG id_carrackref16_Apply #[t0, t1] h0 R :=
  callsF_by carrackref16_Apply.ann 200 mix Tryz.func19 (by kernel_rfl) (by kernel_rfl) (by kernel_rfl) (by kernel_rfl) (by simp [Tryz.ntmps19]) (carrackref16_Apply.eq t0 t1 h0 R) H

def carrackref15_Table_Apply_k70 (R : Value → PH → Prop) (h0 : PH) : Prop :=
 R (Value.int IntKind.i64 0) h0
def carrackref15_Table_Apply_k69 (R : Value → PH → Prop) (h0 : PH) : Prop :=
 carrackref15_Table_Apply_k70 R h0
def carrackref15_Table_Apply (t0 : Value) (t1 : Value) (h0 : PH) (R : Value → PH → Prop) : Prop :=
 ∀ r1, h0 r1 = none → bindH (PH.set h0 r1 (.cells (Value.cells t1) T_api_Note)) fun h2 =>
 popO (SemE PG h2 (Instr.loadAt T_api_Note (Value.pointer (some ⟨r1, 0, none⟩)))) fun v3 =>
 CallsH PG id_carrackref14_Right #[v3] h2 fun v4 h5 =>
 popO (SemP PG (Op.unary UnOp.not v4)) fun v6 =>
 condV v6
 (R (Value.int IntKind.i64 1) h5)
 (popO (SemP PG (Instr.fieldAt T_api_Note (Value.pointer (some ⟨r1, 0, none⟩)) 1)) fun v7 =>
 popO (SemP PG (Instr.fieldAt T_api_Packet v7 0)) fun v8 =>
 popO (SemE PG h5 (Instr.loadAt T_int v8)) fun v9 =>
 popO (SemP PG (Instr.fieldAt T_api_Note (Value.pointer (some ⟨r1, 0, none⟩)) 1)) fun v10 =>
 popO (SemP PG (Instr.fieldAt T_api_Packet v10 1)) fun v11 =>
 popO (SemE PG h5 (Instr.loadAt T_uint64 v11)) fun v12 =>
 CallsH PG id_carrackref15_Table_place #[t0, v9, v12] h5 fun v13 h14 =>
 popO (SemP PG (Instr.extract v13 0)) fun v15 =>
 popO (SemP PG (Instr.extract v13 1)) fun v16 =>
 popO (SemP PG (Instr.fieldAt T_api_Note (Value.pointer (some ⟨r1, 0, none⟩)) 0)) fun v17 =>
 popO (SemE PG h14 (Instr.loadAt T_int v17)) fun v18 =>
 popO (SemE PG h14 (binS BinOp.eql T_int (.tmp 24) (.const (Value.int IntKind.i64 1)) v18 (Value.int IntKind.i64 1))) fun v19 =>
 gopV (yV v19) true (fun k22 => k22 v16 h14) h14 fun v20 h21 =>
 gopV (yV v19) true (fun k25 => popO (SemP PG (Op.unary UnOp.not v20)) fun v26 => k25 v26 h21) h21 fun v23 h24 =>
 popO (pickV v19 v23 (Value.bool false)) fun v27 =>
 condV v27
 (popO (SemP PG (Instr.fieldAt T_api_Note (Value.pointer (some ⟨r1, 0, none⟩)) 1)) fun v28 =>
 popO (SemE PG h24 (Instr.loadAt T_api_Packet v28)) fun v29 =>
 popO (SemP PG (Instr.build T_api_Item #[(0, v29), (1, (Value.int IntKind.i64 1))])) fun v30 =>
 CallsH PG id_carrackref15_Table_put #[t0, v30] h24 fun v31 h32 =>
 R v31 h32)
 (popO (SemP PG (Instr.fieldAt T_api_Note (Value.pointer (some ⟨r1, 0, none⟩)) 0)) fun v33 =>
 popO (SemE PG h24 (Instr.loadAt T_int v33)) fun v34 =>
 popO (SemE PG h24 (binS BinOp.eql T_int (.tmp 37) (.const (Value.int IntKind.i64 2)) v34 (Value.int IntKind.i64 2))) fun v35 =>
 gopV (yV v35) true (fun k38 => k38 v16 h24) h24 fun v36 h37 =>
 gopV (yV v35) true (fun k41 => popO (SemP PG (Op.unary UnOp.not v36)) fun v42 => k41 v42 h37) h37 fun v39 h40 =>
 popO (pickV v35 v39 (Value.bool false)) fun v43 =>
 condV v43
 (popO (SemP PG (Instr.fieldAt T_api_Note (Value.pointer (some ⟨r1, 0, none⟩)) 1)) fun v44 =>
 popO (SemE PG h40 (Instr.loadAt T_api_Packet v44)) fun v45 =>
 popO (SemP PG (Instr.build T_api_Item #[(0, v45), (1, (Value.int IntKind.i64 2))])) fun v46 =>
 CallsH PG id_carrackref15_Table_put #[t0, v46] h40 fun v47 h48 =>
 R v47 h48)
 (popO (SemP PG (Instr.fieldAt T_api_Note (Value.pointer (some ⟨r1, 0, none⟩)) 0)) fun v49 =>
 popO (SemE PG h40 (Instr.loadAt T_int v49)) fun v50 =>
 popO (SemE PG h40 (binS BinOp.eql T_int (.tmp 50) (.const (Value.int IntKind.i64 2)) v50 (Value.int IntKind.i64 2))) fun v51 =>
 condV v51
 (popO (SemA PG (Instr.buildSlice T_sl_api_Item 0 #[])) fun x53 => ∀ r52, h40 r52 = none → popO (SemP PG (x53.2 r52)) fun v54 => bindH (PH.set h40 r52 x53.1) fun h55 =>
 popO (SemP PG (nilS t0)) fun v56 =>
 popO (SemP PG (Instr.fieldAt T_carrackref15_Table v56 0)) fun v57 =>
 popO (SemE PG h55 (Instr.loadAt T_sl_api_Item v57)) fun v58 =>
 SemH PG (Builtin.append_ #[T_sl_api_Item, T_sl_api_Item] T_sl_api_Item #[v54, v58]) h55 fun v59 h60 =>
 popO (SemP PG (Instr.indexAt T_sl_api_Item v59 v15)) fun v61 =>
 popO (SemP PG (Instr.fieldAt T_api_Item v61 1)) fun v62 =>
 SemH PG (storeS T_int v62 (Value.int IntKind.i64 2)) h60 fun v63 h64 =>
 popO (SemP PG (nilS t0)) fun v65 =>
 popO (SemP PG (Instr.fieldAt T_carrackref15_Table v65 0)) fun v66 =>
 SemH PG (storeS T_sl_api_Item v66 v59) h64 fun v67 h68 =>
 carrackref15_Table_Apply_k69 R h68)
 (popO (SemP PG (Instr.fieldAt T_api_Note (Value.pointer (some ⟨r1, 0, none⟩)) 0)) fun v71 =>
 popO (SemE PG h40 (Instr.loadAt T_int v71)) fun v72 =>
 popO (SemP PG (binOp BinOp.gtr T_int v72 (Value.int IntKind.i64 2))) fun v73 =>
 gopV (yV v73) true (fun k76 => k76 v16 h40) h40 fun v74 h75 =>
 popO (pickV v73 v74 (Value.bool false)) fun v77 =>
 condV v77
 (popO (SemP PG (nilS t0)) fun v78 =>
 popO (SemP PG (Instr.fieldAt T_carrackref15_Table v78 0)) fun v79 =>
 popO (SemE PG h75 (Instr.loadAt T_sl_api_Item v79)) fun v80 =>
 popO (SemP PG (Instr.sliceAt T_sl_api_Item v80 none (some v15) none)) fun v81 =>
 popO (SemP PG (nilS t0)) fun v82 =>
 popO (SemP PG (Instr.fieldAt T_carrackref15_Table v82 0)) fun v83 =>
 popO (SemE PG h75 (Instr.loadAt T_sl_api_Item v83)) fun v84 =>
 popO (SemP PG (binOp BinOp.add T_int v15 (Value.int IntKind.i64 1))) fun v85 =>
 popO (SemP PG (Instr.sliceAt T_sl_api_Item v84 (some v85) none none)) fun v86 =>
 popO (SemA PG (Instr.buildSlice T_sl_api_Item 0 #[])) fun x88 => ∀ r87, h75 r87 = none → popO (SemP PG (x88.2 r87)) fun v89 => bindH (PH.set h75 r87 x88.1) fun h90 =>
 SemH PG (Builtin.append_ #[T_sl_api_Item, T_sl_api_Item] T_sl_api_Item #[v89, v81]) h90 fun v91 h92 =>
 SemE PG h92 (Instr.loadAt T_sl_api_Item v83) = some v84 ∧ (SemH PG (Builtin.append_ #[T_sl_api_Item, T_sl_api_Item] T_sl_api_Item #[v91, v86]) h92 fun v93 h94 =>
 (popO (SemP PG (nilS t0)) fun v95 =>
 popO (SemP PG (Instr.fieldAt T_carrackref15_Table v95 0)) fun v96 =>
 SemH PG (storeS T_sl_api_Item v96 v93) h94 fun v97 h98 =>
 (carrackref15_Table_Apply_k69 R h98))))
 (carrackref15_Table_Apply_k69 R h75)))))
def carrackref15_Table_Apply.ann : Ann := { b := fun i => match i with | 13 => #[0, 0, 0, 4, 12, 28, 0, 124, 254, 0, 512, 1536, 3584, 0, 8192, 32256, 65534, 131071, 262143, 524287] | _ => #[], ord := fun i => match i with | 13 => [0, 2, 3, 4, 5, 6, 7, 9, 10, 11, 12, 13, 14, 15, 1, 8, 16, 17, 18, 19] | _ => [], keep := fun i => match i with  | _ => [], n := 92 }
theorem carrackref15_Table_Apply.eq (t0 : Value) (t1 : Value) (h0 : PH) (R : Value → PH → Prop) : codeF PG carrackref15_Table_Apply.ann 200 (bodyOf Tryz.f50) (endH PG Tryz.f50 R) (fun t => (#[t0, t1] : Array Value).getD t undef) h0 = carrackref15_Table_Apply t0 t1 h0 R := by kernel_rfl
theorem carrackref15_Table_Apply.call {t0 : Value} {t1 : Value} {h0 : PH} {R : Value → PH → Prop} (H : carrackref15_Table_Apply t0 t1 h0 R) : CallsH PG id_carrackref15_Table_Apply #[t0, t1] h0 R :=
  callsF_by carrackref15_Table_Apply.ann 200 mix Tryz.func50 (by kernel_rfl) (by kernel_rfl) (by kernel_rfl) (by kernel_rfl) (by simp [Tryz.ntmps50]) (carrackref15_Table_Apply.eq t0 t1 h0 R) H

def carrackref17_SameState (t0 : Value) (t1 : Value) (h0 : PH) (R : Value → PH → Prop) : Prop :=
 ∀ r1, h0 r1 = none → bindH (PH.set h0 r1 (.cells (Value.cells t0) T_api_Daemon)) fun h2 =>
 ∀ r3, h2 r3 = none → bindH (PH.set h2 r3 (.cells (Value.cells t1) T_api_Daemon)) fun h4 =>
 popO (SemP PG (Instr.fieldAt T_api_Daemon (Value.pointer (some ⟨r1, 0, none⟩)) 0)) fun v5 =>
 popO (SemE PG h4 (Instr.loadAt T_2_api_Place v5)) fun v6 =>
 popO (SemP PG (Instr.fieldAt T_api_Daemon (Value.pointer (some ⟨r3, 0, none⟩)) 0)) fun v7 =>
 popO (SemE PG h4 (Instr.loadAt T_2_api_Place v7)) fun v8 =>
 popO (SemE PG h4 (binS BinOp.eql T_2_api_Place (.tmp 6) (.tmp 8) v6 v8)) fun v9 =>
 gopV (yV v9) true (fun k12 => popO (SemP PG (Instr.fieldAt T_api_Daemon (Value.pointer (some ⟨r1, 0, none⟩)) 1)) fun v13 => k12 v13 h4) h4 fun v10 h11 =>
 gopV (yV v9) true (fun k16 => popO (SemE PG h11 (Instr.loadAt T_sl_api_Item v10)) fun v17 => k16 v17 h11) h11 fun v14 h15 =>
 gopV (yV v9) true (fun k20 => popO (SemP PG (Instr.fieldAt T_api_Daemon (Value.pointer (some ⟨r3, 0, none⟩)) 1)) fun v21 => k20 v21 h15) h15 fun v18 h19 =>
 gopV (yV v9) true (fun k24 => popO (SemE PG h19 (Instr.loadAt T_sl_api_Item v18)) fun v25 => k24 v25 h19) h19 fun v22 h23 =>
 gopV (yV v9) true (fun k28 => CallsH PG id_carrackref14_SameItems #[v14, v22] h23 fun v29 h30 => k28 v29 h30) h23 fun v26 h27 =>
 popO (pickV v9 v26 (Value.bool false)) fun v31 =>
 R v31 h27
def carrackref17_SameState.ann : Ann := { b := fun i => match i with  | _ => #[], ord := fun i => match i with  | _ => [], keep := fun i => match i with  | _ => [], n := 17 }
theorem carrackref17_SameState.eq (t0 : Value) (t1 : Value) (h0 : PH) (R : Value → PH → Prop) : codeF PG carrackref17_SameState.ann 200 (bodyOf Tryz.f8) (endH PG Tryz.f8 R) (fun t => (#[t0, t1] : Array Value).getD t undef) h0 = carrackref17_SameState t0 t1 h0 R := by kernel_rfl
theorem carrackref17_SameState.call {t0 : Value} {t1 : Value} {h0 : PH} {R : Value → PH → Prop} (H : carrackref17_SameState t0 t1 h0 R) : CallsH PG id_carrackref17_SameState #[t0, t1] h0 R :=
  callsF_by carrackref17_SameState.ann 200 mix Tryz.func8 (by kernel_rfl) (by kernel_rfl) (by kernel_rfl) (by kernel_rfl) (by simp [Tryz.ntmps8]) (carrackref17_SameState.eq t0 t1 h0 R) H

end Go.Proofs.YtlkjippiaghbmaaGreat
