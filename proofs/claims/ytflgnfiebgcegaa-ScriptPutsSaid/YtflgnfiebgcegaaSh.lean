/- What the functions of this program do on a part of memory, by program (prt.py) out of Lean's own print of them; for each the theorem that its code is that. -/
import Derived.Test.YtflgnfiebgcegaaTy
set_option maxRecDepth 100000
set_option linter.unusedVariables false
namespace Go.Proofs.Ytflgnfiebgcegaa
open Go
def carracklaw23_ScriptReads (t0 : Value) (h0 : PH) (R : Value → PH → Prop) : Prop :=
 CallsH PG id_carracklaw23_awake #[] h0 fun v1 h2 =>
 popO (SemP PG (Op.unary UnOp.not v1)) fun v3 =>
 condV v3
 (R (Value.bool false) h2)
 (popO (SemP PG (Builtin.len_ #[T_string] T_int #[t0])) fun v4 =>
 popO (SemP PG (binOp BinOp.gtr T_int v4 (Value.int IntKind.i64 5000))) fun v5 =>
 condV v5
 (R (Value.bool true) h2)
 (CallsH PG id_script_Config #[t0] h2 fun v6 h7 =>
 popO (SemP PG (Instr.extract v6 0)) fun v8 =>
 popO (SemP PG (Instr.extract v6 1)) fun v9 =>
 popO (SemP PG (Instr.extract v6 2)) fun v10 =>
 ∀ r11, h7 r11 = none → bindH (PH.set h7 r11 (.cells (zcells PG T_api_Config) T_api_Config)) fun h12 =>
 SemH PG (storeS T_api_Config (Value.pointer (some ⟨r11, 0, none⟩)) v8) h12 fun v13 h14 =>
 CallsH PG id_carrackref23_Config #[t0] h14 fun v15 h16 =>
 popO (SemP PG (Instr.extract v15 0)) fun v17 =>
 popO (SemP PG (Instr.extract v15 1)) fun v18 =>
 popO (SemP PG (Instr.extract v15 2)) fun v19 =>
 ∀ r20, h16 r20 = none → bindH (PH.set h16 r20 (.cells (zcells PG T_api_Config) T_api_Config)) fun h21 =>
 SemH PG (storeS T_api_Config (Value.pointer (some ⟨r20, 0, none⟩)) v17) h21 fun v22 h23 =>
 CallsH PG id_script_Entries #[t0] h23 fun v24 h25 =>
 CallsH PG id_carrackref23_Entries #[t0] h25 fun v26 h27 =>
 CallsH PG id_carracklaw23_entries #[v24, v26] h27 fun v28 h29 =>
 gopV (yV v28) true (fun k32 => popO (SemE PG h29 (Instr.loadAt T_api_Config (Value.pointer (some ⟨r11, 0, none⟩)))) fun v33 => k32 v33 h29) h29 fun v30 h31 =>
 gopV (yV v28) true (fun k36 => popO (SemE PG h31 (Instr.loadAt T_api_Config (Value.pointer (some ⟨r20, 0, none⟩)))) fun v37 => k36 v37 h31) h31 fun v34 h35 =>
 gopV (yV v28) true (fun k40 => popO (SemE PG h35 (binS BinOp.eql T_api_Config (.tmp 32) (.tmp 33) v30 v34)) fun v41 => k40 v41 h35) h35 fun v38 h39 =>
 popO (pickV v28 v38 (Value.bool false)) fun v42 =>
 gopV (yV v42) true (fun k45 => k45 v9 h39) h39 fun v43 h44 =>
 gopV (yV v42) true (fun k48 => k48 v18 h44) h44 fun v46 h47 =>
 gopV (yV v42) true (fun k51 => popO (SemE PG h47 (binS BinOp.eql T_string (.tmp 37) (.tmp 38) v43 v46)) fun v52 => k51 v52 h47) h47 fun v49 h50 =>
 popO (pickV v42 v49 (Value.bool false)) fun v53 =>
 gopV (yV v53) true (fun k56 => k56 v10 h50) h50 fun v54 h55 =>
 gopV (yV v53) true (fun k59 => k59 v19 h55) h55 fun v57 h58 =>
 gopV (yV v53) true (fun k62 => popO (SemE PG h58 (binS BinOp.eql T_int (.tmp 42) (.tmp 43) v54 v57)) fun v63 => k62 v63 h58) h58 fun v60 h61 =>
 popO (pickV v53 v60 (Value.bool false)) fun v64 =>
 R v64 h61))
def carracklaw23_ScriptReads.ann : Ann := { b := fun i => match i with  | _ => #[], ord := fun i => match i with  | _ => [], keep := fun i => match i with  | _ => [] }
theorem carracklaw23_ScriptReads.eq (t0 : Value) (h0 : PH) (R : Value → PH → Prop) : codeF PG carracklaw23_ScriptReads.ann 200 (bodyOf Try.f3) (endH PG Try.f3 R) (fun t => (#[t0] : Array Value).getD t undef) h0 = carracklaw23_ScriptReads t0 h0 R := by kernel_rfl
theorem carracklaw23_ScriptReads.call {t0 : Value} {h0 : PH} {R : Value → PH → Prop} (H : carracklaw23_ScriptReads t0 h0 R) : CallsH PG id_carracklaw23_ScriptReads #[t0] h0 R :=
  callsF_by carracklaw23_ScriptReads.ann 200 mix Try.func3 (by kernel_rfl) (by kernel_rfl) (by kernel_rfl) (by kernel_rfl) (by simp [Try.ntmps3]) (carracklaw23_ScriptReads.eq t0 h0 R) H

def carracklaw23_awake (h0 : PH) (R : Value → PH → Prop) : Prop :=
 popO (SemP PG (Instr.build T_api_Act #[(0, (Value.int IntKind.i64 1)), (1, (Value.int IntKind.i64 1))])) fun v1 =>
 CallsH PG id_script_Put #[v1] h0 fun v2 h3 =>
 popO (SemP PG (Instr.extract v2 0)) fun v4 =>
 popO (SemP PG (Instr.extract v2 1)) fun v5 =>
 CallsH PG id_script_Entries #[(Value.string { data := #[2, 9] })] h3 fun v6 h7 =>
 popO (SemE PG h7 (binS BinOp.eql T_string (.tmp 10) (.const (Value.string { data := #[1, 1] })) v4 (Value.string { data := #[1, 1] }))) fun v8 =>
 gopV (yV v8) true (fun k11 => k11 v5 h7) h7 fun v9 h10 =>
 gopV (yV v8) true (fun k14 => popO (SemE PG h10 (binS BinOp.eql T_api_Errno (.tmp 13) (.const (Value.int IntKind.i64 0)) v9 (Value.int IntKind.i64 0))) fun v15 => k14 v15 h10) h10 fun v12 h13 =>
 popO (pickV v8 v12 (Value.bool false)) fun v16 =>
 gopV (yV v16) true (fun k19 => k19 v6 h13) h13 fun v17 h18 =>
 gopV (yV v16) true (fun k22 => popO (SemP PG (Builtin.len_ #[T_sl_script_Entry] T_int #[v17])) fun v23 => k22 v23 h18) h18 fun v20 h21 =>
 gopV (yV v16) true (fun k26 => popO (SemE PG h21 (binS BinOp.eql T_int (.tmp 18) (.const (Value.int IntKind.i64 2)) v20 (Value.int IntKind.i64 2))) fun v27 => k26 v27 h21) h21 fun v24 h25 =>
 popO (pickV v16 v24 (Value.bool false)) fun v28 =>
 gopV (yV v28) true (fun k31 => k31 v6 h25) h25 fun v29 h30 =>
 gopV (yV v28) true (fun k34 => popO (SemP PG (Instr.indexAt T_sl_script_Entry v29 (Value.int IntKind.i64 0))) fun v35 => k34 v35 h30) h30 fun v32 h33 =>
 gopV (yV v28) true (fun k38 => popO (SemP PG (Instr.fieldAt T_script_Entry v32 0)) fun v39 => k38 v39 h33) h33 fun v36 h37 =>
 gopV (yV v28) true (fun k42 => popO (SemP PG (Instr.fieldAt T_api_Act v36 0)) fun v43 => k42 v43 h37) h37 fun v40 h41 =>
 gopV (yV v28) true (fun k46 => popO (SemE PG h41 (Instr.loadAt T_int v40)) fun v47 => k46 v47 h41) h41 fun v44 h45 =>
 gopV (yV v28) true (fun k50 => popO (SemE PG h45 (binS BinOp.eql T_int (.tmp 26) (.const (Value.int IntKind.i64 2)) v44 (Value.int IntKind.i64 2))) fun v51 => k50 v51 h45) h45 fun v48 h49 =>
 popO (pickV v28 v48 (Value.bool false)) fun v52 =>
 gopV (yV v52) true (fun k55 => k55 v6 h49) h49 fun v53 h54 =>
 gopV (yV v52) true (fun k58 => popO (SemP PG (Instr.indexAt T_sl_script_Entry v53 (Value.int IntKind.i64 0))) fun v59 => k58 v59 h54) h54 fun v56 h57 =>
 gopV (yV v52) true (fun k62 => popO (SemP PG (Instr.fieldAt T_script_Entry v56 1)) fun v63 => k62 v63 h57) h57 fun v60 h61 =>
 gopV (yV v52) true (fun k66 => popO (SemE PG h61 (Instr.loadAt T_api_Errno v60)) fun v67 => k66 v67 h61) h61 fun v64 h65 =>
 gopV (yV v52) true (fun k70 => popO (SemE PG h65 (binS BinOp.eql T_api_Errno (.tmp 33) (.const (Value.int IntKind.i64 0)) v64 (Value.int IntKind.i64 0))) fun v71 => k70 v71 h65) h65 fun v68 h69 =>
 popO (pickV v52 v68 (Value.bool false)) fun v72 =>
 gopV (yV v72) true (fun k75 => k75 v6 h69) h69 fun v73 h74 =>
 gopV (yV v72) true (fun k78 => popO (SemP PG (Instr.indexAt T_sl_script_Entry v73 (Value.int IntKind.i64 1))) fun v79 => k78 v79 h74) h74 fun v76 h77 =>
 gopV (yV v72) true (fun k82 => popO (SemP PG (Instr.fieldAt T_script_Entry v76 1)) fun v83 => k82 v83 h77) h77 fun v80 h81 =>
 gopV (yV v72) true (fun k86 => popO (SemE PG h81 (Instr.loadAt T_api_Errno v80)) fun v87 => k86 v87 h81) h81 fun v84 h85 =>
 gopV (yV v72) true (fun k90 => popO (SemE PG h85 (binS BinOp.eql T_api_Errno (.tmp 40) (.const (Value.int IntKind.i64 5)) v84 (Value.int IntKind.i64 5))) fun v91 => k90 v91 h85) h85 fun v88 h89 =>
 popO (pickV v72 v88 (Value.bool false)) fun v92 =>
 R v92 h89
def carracklaw23_awake.ann : Ann := { b := fun i => match i with  | _ => #[], ord := fun i => match i with  | _ => [], keep := fun i => match i with  | _ => [] }
theorem carracklaw23_awake.eq (h0 : PH) (R : Value → PH → Prop) : codeF PG carracklaw23_awake.ann 200 (bodyOf Try.f6) (endH PG Try.f6 R) (fun t => (#[] : Array Value).getD t undef) h0 = carracklaw23_awake  h0 R := by kernel_rfl
theorem carracklaw23_awake.call {h0 : PH} {R : Value → PH → Prop} (H : carracklaw23_awake  h0 R) : CallsH PG id_carracklaw23_awake #[] h0 R :=
  callsF_by carracklaw23_awake.ann 200 mix Try.func6 (by kernel_rfl) (by kernel_rfl) (by kernel_rfl) (by kernel_rfl) (by simp [Try.ntmps6]) (carracklaw23_awake.eq  h0 R) H

def script_Entries_k23 (R : Value → PH → Prop) (n1 : List Value → PH → Prop) (t0 : Value) (t3 : Value) (h0 : PH) : Prop :=
 n1 [t0, t3] h0
def script_Entries_b2 (R : Value → PH → Prop) (n1 : List Value → PH → Prop) (t0 : Value) (t3 : Value) (h0 : PH) : Prop :=
 popO (SemP PG (Builtin.len_ #[T_string] T_int #[t0])) fun v3 =>
 popO (SemP PG (binOp BinOp.gtr T_int v3 (Value.int IntKind.i64 0))) fun v4 =>
 condV v4
 (popO (SemP PG (Instr.index T_string t0 (Value.int IntKind.i64 0))) fun v5 =>
 popO (SemP PG (convert T_uint8 T_int v5)) fun v6 =>
 popO (SemP PG (Instr.build T_api_Act #[(0, v6)])) fun v7 =>
 ∀ r8, h0 r8 = none → bindH (PH.set h0 r8 (.cells (zcells PG T_api_Act) T_api_Act)) fun h9 =>
 SemH PG (storeS T_api_Act (Value.pointer (some ⟨r8, 0, none⟩)) v7) h9 fun v10 h11 =>
 popO (SemP PG (Instr.fieldAt T_api_Act (Value.pointer (some ⟨r8, 0, none⟩)) 0)) fun v12 =>
 popO (SemE PG h11 (Instr.loadAt T_int v12)) fun v13 =>
 popO (SemP PG (binOp BinOp.geq T_int v13 (Value.int IntKind.i64 9))) fun v14 =>
 condV v14
 (popO (SemP PG (Instr.build T_script_Entry #[(1, (Value.int IntKind.i64 5))])) fun v15 =>
 popO (SemA PG (Instr.buildSlice T_sl_script_Entry 1 #[(0, v15)])) fun x17 => ∀ r16, h11 r16 = none → popO (SemP PG (x17.2 r16)) fun v18 => bindH (PH.set h11 r16 x17.1) fun h19 =>
 SemH PG (Builtin.append_ #[T_sl_script_Entry, T_sl_script_Entry] T_sl_script_Entry #[t3, v18]) h19 fun v20 h21 =>
 popO (SemP PG (Instr.sliceAt T_string t0 (some (Value.int IntKind.i64 1)) none none)) fun v22 =>
 script_Entries_k23 R n1 v22 v20 h21)
 (popO (SemP PG (Instr.sliceAt T_string t0 (some (Value.int IntKind.i64 1)) none none)) fun v24 =>
 CallsH PG id_wire_NewReader #[v24] h11 fun v25 h26 =>
 popO (SemP PG (Instr.fieldAt T_api_Act (Value.pointer (some ⟨r8, 0, none⟩)) 0)) fun v27 =>
 popO (SemE PG h26 (Instr.loadAt T_int v27)) fun v28 =>
 CallsH PG id_script_forms #[] h26 fun v29 h30 =>
 SemE PG h30 (Instr.loadAt T_int v27) = some v28 ∧ (popO (SemP PG (Instr.index T_9_script_form v29 v28)) fun v31 =>
 popO (SemP PG (Instr.field T_script_form v31 1)) fun v32 =>
 callC PG v32 #[v25, (Value.pointer (some ⟨r8, 0, none⟩))] h30 fun v33 h34 =>
 (popO (SemP PG (nilS v25)) fun v35 =>
 popO (SemP PG (Instr.fieldAt T_wire_Reader v35 0)) fun v36 =>
 CallsH PG id_wire_memory_Err #[v36] h34 fun v37 h38 =>
 popO (SemE PG h38 (binS BinOp.neq T_api_Errno (.tmp 35) (.const (Value.int IntKind.i64 0)) v37 (Value.int IntKind.i64 0))) fun v39 =>
 condV v39
 (popO (SemP PG (Instr.build T_script_Entry #[(1, (Value.int IntKind.i64 6))])) fun v40 =>
 popO (SemA PG (Instr.buildSlice T_sl_script_Entry 1 #[(0, v40)])) fun x42 => ∀ r41, h38 r41 = none → popO (SemP PG (x42.2 r41)) fun v43 => bindH (PH.set h38 r41 x42.1) fun h44 =>
 SemH PG (Builtin.append_ #[T_sl_script_Entry, T_sl_script_Entry] T_sl_script_Entry #[t3, v43]) h44 fun v45 h46 =>
 R v45 h46)
 (popO (SemE PG h38 (Instr.loadAt T_api_Act (Value.pointer (some ⟨r8, 0, none⟩)))) fun v47 =>
 popO (SemP PG (Instr.build T_script_Entry #[(0, v47)])) fun v48 =>
 popO (SemA PG (Instr.buildSlice T_sl_script_Entry 1 #[(0, v48)])) fun x50 => ∀ r49, h38 r49 = none → popO (SemP PG (x50.2 r49)) fun v51 => bindH (PH.set h38 r49 x50.1) fun h52 =>
 SemH PG (Builtin.append_ #[T_sl_script_Entry, T_sl_script_Entry] T_sl_script_Entry #[t3, v51]) h52 fun v53 h54 =>
 popO (SemP PG (Builtin.len_ #[T_string] T_int #[t0])) fun v55 =>
 CallsH PG id_wire_Reader_Left #[v25] h54 fun v56 h57 =>
 popO (SemP PG (binOp BinOp.sub T_int v55 v56)) fun v58 =>
 popO (SemP PG (Instr.sliceAt T_string t0 (some v58) none none)) fun v59 =>
 script_Entries_k23 R n1 v59 v53 h57)))))
 (R t3 h0)
def script_Entries (t0 : Value) (h0 : PH) (R : Value → PH → Prop) : Prop :=
 LoopL [0, 3] (fun n1 ρ h => script_Entries_b2 R n1 (ρ 0) (ρ 3) h) [t0, (Value.slice none 0 0)] h0
def script_Entries.ann : Ann := { b := fun i => match i with | 8 => #[0, 0, 2, 7, 15, 0, 63] | _ => #[], ord := fun i => match i with | 8 => [1, 2, 5, 0, 3, 4, 6] | _ => [], keep := fun i => match i with | 2 => [0, 3] | _ => [] }
theorem script_Entries.eq (t0 : Value) (h0 : PH) (R : Value → PH → Prop) : codeF PG script_Entries.ann 200 (bodyOf Try.f10) (endH PG Try.f10 R) (fun t => (#[t0] : Array Value).getD t undef) h0 = script_Entries t0 h0 R := by kernel_rfl
theorem script_Entries.call {t0 : Value} {h0 : PH} {R : Value → PH → Prop} (H : script_Entries t0 h0 R) : CallsH PG id_script_Entries #[t0] h0 R :=
  callsF_by script_Entries.ann 200 mix Try.func10 (by kernel_rfl) (by kernel_rfl) (by kernel_rfl) (by kernel_rfl) (by simp [Try.ntmps10]) (script_Entries.eq t0 h0 R) H

def wire_NewReader (t0 : Value) (h0 : PH) (R : Value → PH → Prop) : Prop :=
 popO (SemP PG (Instr.build T_wire_Reader #[(1, t0)])) fun v1 =>
 ∀ r2, h0 r2 = none → bindH (PH.set h0 r2 (.cells (Value.cells v1) T_wire_Reader)) fun h3 =>
 R (Value.pointer (some ⟨r2, 0, none⟩)) h3
def wire_NewReader.ann : Ann := { b := fun i => match i with  | _ => #[], ord := fun i => match i with  | _ => [], keep := fun i => match i with  | _ => [] }
theorem wire_NewReader.eq (t0 : Value) (h0 : PH) (R : Value → PH → Prop) : codeF PG wire_NewReader.ann 200 (bodyOf Try.f19) (endH PG Try.f19 R) (fun t => (#[t0] : Array Value).getD t undef) h0 = wire_NewReader t0 h0 R := by kernel_rfl
theorem wire_NewReader.call {t0 : Value} {h0 : PH} {R : Value → PH → Prop} (H : wire_NewReader t0 h0 R) : CallsH PG id_wire_NewReader #[t0] h0 R :=
  callsF_by wire_NewReader.ann 200 mix Try.func19 (by kernel_rfl) (by kernel_rfl) (by kernel_rfl) (by kernel_rfl) (by simp [Try.ntmps19]) (wire_NewReader.eq t0 h0 R) H

def wire_memory_Err (t0 : Value) (h0 : PH) (R : Value → PH → Prop) : Prop :=
 popO (SemP PG (nilS t0)) fun v1 =>
 popO (SemP PG (Instr.fieldAt T_wire_memory v1 0)) fun v2 =>
 popO (SemE PG h0 (Instr.loadAt T_api_Errno v2)) fun v3 =>
 R v3 h0
def wire_memory_Err.ann : Ann := { b := fun i => match i with  | _ => #[], ord := fun i => match i with  | _ => [], keep := fun i => match i with  | _ => [] }
theorem wire_memory_Err.eq (t0 : Value) (h0 : PH) (R : Value → PH → Prop) : codeF PG wire_memory_Err.ann 200 (bodyOf Try.f23) (endH PG Try.f23 R) (fun t => (#[t0] : Array Value).getD t undef) h0 = wire_memory_Err t0 h0 R := by kernel_rfl
theorem wire_memory_Err.call {t0 : Value} {h0 : PH} {R : Value → PH → Prop} (H : wire_memory_Err t0 h0 R) : CallsH PG id_wire_memory_Err #[t0] h0 R :=
  callsF_by wire_memory_Err.ann 200 mix Try.func23 (by kernel_rfl) (by kernel_rfl) (by kernel_rfl) (by kernel_rfl) (by simp [Try.ntmps23]) (wire_memory_Err.eq t0 h0 R) H

def wire_Reader_Left (t0 : Value) (h0 : PH) (R : Value → PH → Prop) : Prop :=
 popO (SemP PG (nilS t0)) fun v1 =>
 popO (SemP PG (Instr.fieldAt T_wire_Reader v1 0)) fun v2 =>
 CallsH PG id_wire_memory_Err #[v2] h0 fun v3 h4 =>
 popO (SemE PG h4 (binS BinOp.neq T_api_Errno (.tmp 6) (.const (Value.int IntKind.i64 0)) v3 (Value.int IntKind.i64 0))) fun v5 =>
 condV v5
 (R (Value.int IntKind.i64 0) h4)
 (popO (SemP PG (nilS t0)) fun v6 =>
 popO (SemP PG (Instr.fieldAt T_wire_Reader v6 1)) fun v7 =>
 popO (SemE PG h4 (Instr.loadAt T_string v7)) fun v8 =>
 popO (SemP PG (Builtin.len_ #[T_string] T_int #[v8])) fun v9 =>
 R v9 h4)
def wire_Reader_Left.ann : Ann := { b := fun i => match i with  | _ => #[], ord := fun i => match i with  | _ => [], keep := fun i => match i with  | _ => [] }
theorem wire_Reader_Left.eq (t0 : Value) (h0 : PH) (R : Value → PH → Prop) : codeF PG wire_Reader_Left.ann 200 (bodyOf Try.f25) (endH PG Try.f25 R) (fun t => (#[t0] : Array Value).getD t undef) h0 = wire_Reader_Left t0 h0 R := by kernel_rfl
theorem wire_Reader_Left.call {t0 : Value} {h0 : PH} {R : Value → PH → Prop} (H : wire_Reader_Left t0 h0 R) : CallsH PG id_wire_Reader_Left #[t0] h0 R :=
  callsF_by wire_Reader_Left.ann 200 mix Try.func25 (by kernel_rfl) (by kernel_rfl) (by kernel_rfl) (by kernel_rfl) (by simp [Try.ntmps25]) (wire_Reader_Left.eq t0 h0 R) H

def script_forms (h0 : PH) (R : Value → PH → Prop) : Prop :=
 ∀ r1, h0 r1 = none → bindH (PH.set h0 r1 (.cells (zcells PG T_9_script_form) T_9_script_form)) fun h2 =>
 popO (SemP PG (Instr.build T_script_form #[(0, (Value.func (Fn.func id_script_forms_1) #[] #[])), (1, (Value.func (Fn.func id_script_forms_2) #[] #[]))])) fun v3 =>
 ∀ r4, h2 r4 = none → bindH (PH.set h2 r4 (.cells (zcells PG T_script_form) T_script_form)) fun h5 =>
 SemH PG (storeS T_script_form (Value.pointer (some ⟨r4, 0, none⟩)) v3) h5 fun v6 h7 =>
 popO (SemP PG (Instr.build T_script_form #[(0, (Value.func (Fn.func id_script_forms_3) #[] #[])), (1, (Value.func (Fn.func id_script_forms_4) #[] #[]))])) fun v8 =>
 ∀ r9, h7 r9 = none → bindH (PH.set h7 r9 (.cells (zcells PG T_script_form) T_script_form)) fun h10 =>
 SemH PG (storeS T_script_form (Value.pointer (some ⟨r9, 0, none⟩)) v8) h10 fun v11 h12 =>
 popO (SemE PG h12 (Instr.loadAt T_script_form (Value.pointer (some ⟨r4, 0, none⟩)))) fun v13 =>
 popO (SemE PG h12 (Instr.loadAt T_script_form (Value.pointer (some ⟨r9, 0, none⟩)))) fun v14 =>
 CallsH PG id_script_send #[] h12 fun v15 h16 =>
 SemE PG h16 (Instr.loadAt T_script_form (Value.pointer (some ⟨r9, 0, none⟩))) = some v14 ∧ SemE PG h16 (Instr.loadAt T_script_form (Value.pointer (some ⟨r4, 0, none⟩))) = some v13 ∧ (CallsH PG id_script_number #[] h16 fun v17 h18 =>
 SemE PG h18 (Instr.loadAt T_script_form (Value.pointer (some ⟨r9, 0, none⟩))) = some v14 ∧ SemE PG h18 (Instr.loadAt T_script_form (Value.pointer (some ⟨r4, 0, none⟩))) = some v13 ∧ (CallsH PG id_script_number #[] h18 fun v19 h20 =>
 SemE PG h20 (Instr.loadAt T_script_form (Value.pointer (some ⟨r9, 0, none⟩))) = some v14 ∧ SemE PG h20 (Instr.loadAt T_script_form (Value.pointer (some ⟨r4, 0, none⟩))) = some v13 ∧ (CallsH PG id_script_number #[] h20 fun v21 h22 =>
 SemE PG h22 (Instr.loadAt T_script_form (Value.pointer (some ⟨r9, 0, none⟩))) = some v14 ∧ SemE PG h22 (Instr.loadAt T_script_form (Value.pointer (some ⟨r4, 0, none⟩))) = some v13 ∧ (CallsH PG id_script_forge #[] h22 fun v23 h24 =>
 SemE PG h24 (Instr.loadAt T_script_form (Value.pointer (some ⟨r9, 0, none⟩))) = some v14 ∧ SemE PG h24 (Instr.loadAt T_script_form (Value.pointer (some ⟨r4, 0, none⟩))) = some v13 ∧ (CallsH PG id_script_number #[] h24 fun v25 h26 =>
 SemE PG h26 (Instr.loadAt T_script_form (Value.pointer (some ⟨r9, 0, none⟩))) = some v14 ∧ SemE PG h26 (Instr.loadAt T_script_form (Value.pointer (some ⟨r4, 0, none⟩))) = some v13 ∧ (CallsH PG id_script_crash #[] h26 fun v27 h28 =>
 SemE PG h28 (Instr.loadAt T_script_form (Value.pointer (some ⟨r9, 0, none⟩))) = some v14 ∧ SemE PG h28 (Instr.loadAt T_script_form (Value.pointer (some ⟨r4, 0, none⟩))) = some v13 ∧ (popO (SemP PG (Instr.build T_9_script_form #[(0, v15), (1, v13), (2, v14), (3, v17), (4, v19), (5, v21), (6, v23), (7, v25), (8, v27)])) fun v29 =>
 SemH PG (storeS T_9_script_form (Value.pointer (some ⟨r1, 0, none⟩)) v29) h28 fun v30 h31 =>
 (popO (SemE PG h31 (Instr.loadAt T_9_script_form (Value.pointer (some ⟨r1, 0, none⟩)))) fun v32 =>
 R v32 h31))))))))
def script_forms.ann : Ann := { b := fun i => match i with | 3 => #[0, 0, 0, 1, 9, 25, 57, 121, 249, 511, 1023] | _ => #[], ord := fun i => match i with | 3 => [1, 2, 0, 3, 4, 5, 6, 7, 8, 9, 10] | _ => [], keep := fun i => match i with  | _ => [] }
theorem script_forms.eq (h0 : PH) (R : Value → PH → Prop) : codeF PG script_forms.ann 200 (bodyOf Try.f28) (endH PG Try.f28 R) (fun t => (#[] : Array Value).getD t undef) h0 = script_forms  h0 R := by kernel_rfl
theorem script_forms.call {h0 : PH} {R : Value → PH → Prop} (H : script_forms  h0 R) : CallsH PG id_script_forms #[] h0 R :=
  callsF_by script_forms.ann 200 mix Try.func28 (by kernel_rfl) (by kernel_rfl) (by kernel_rfl) (by kernel_rfl) (by simp [Try.ntmps28]) (script_forms.eq  h0 R) H

def script_forms_1 (t0 : Value) (t1 : Value) (h0 : PH) (R : Value → PH → Prop) : Prop :=
 ∀ r1, h0 r1 = none → bindH (PH.set h0 r1 (.cells (Value.cells t1) T_api_Act)) fun h2 =>
 popO (SemP PG (Instr.fieldAt T_api_Act (Value.pointer (some ⟨r1, 0, none⟩)) 1)) fun v3 =>
 popO (SemE PG h2 (Instr.loadAt T_int v3)) fun v4 =>
 CallsH PG id_wire_Writer_Byte #[t0, v4] h2 fun v5 h6 =>
 R (Value.tuple #[]) h6
def script_forms_1.ann : Ann := { b := fun i => match i with  | _ => #[], ord := fun i => match i with  | _ => [], keep := fun i => match i with  | _ => [] }
theorem script_forms_1.eq (t0 : Value) (t1 : Value) (h0 : PH) (R : Value → PH → Prop) : codeF PG script_forms_1.ann 200 (bodyOf Try.f44) (endH PG Try.f44 R) (fun t => (#[t0, t1] : Array Value).getD t undef) h0 = script_forms_1 t0 t1 h0 R := by kernel_rfl
theorem script_forms_1.call {t0 : Value} {t1 : Value} {h0 : PH} {R : Value → PH → Prop} (H : script_forms_1 t0 t1 h0 R) : CallsH PG id_script_forms_1 #[t0, t1] h0 R :=
  callsF_by script_forms_1.ann 200 mix Try.func44 (by kernel_rfl) (by kernel_rfl) (by kernel_rfl) (by kernel_rfl) (by simp [Try.ntmps44]) (script_forms_1.eq t0 t1 h0 R) H

def wire_Writer_Byte (t0 : Value) (t1 : Value) (h0 : PH) (R : Value → PH → Prop) : Prop :=
 popO (SemP PG (binOp BinOp.lss T_int t1 (Value.int IntKind.i64 0))) fun v1 =>
 gopV (yV v1) false (fun k4 => k4 t1 h0) h0 fun v2 h3 =>
 gopV (yV v1) false (fun k7 => popO (SemP PG (binOp BinOp.gtr T_int v2 (Value.int IntKind.i64 255))) fun v8 => k7 v8 h3) h3 fun v5 h6 =>
 popO (pickV v1 (Value.bool true) v5) fun v9 =>
 condV v9
 (popO (SemP PG (nilS t0)) fun v10 =>
 popO (SemP PG (Instr.fieldAt T_wire_Writer v10 0)) fun v11 =>
 CallsH PG id_wire_memory_Fail #[v11, (Value.int IntKind.i64 1)] h6 fun v12 h13 =>
 R (Value.tuple #[]) h13)
 (popO (SemP PG (convert T_int T_uint64 t1)) fun v14 =>
 CallsH PG id_wire_Writer_put #[t0, v14, (Value.int IntKind.i64 1)] h6 fun v15 h16 =>
 R (Value.tuple #[]) h16)
def wire_Writer_Byte.ann : Ann := { b := fun i => match i with  | _ => #[], ord := fun i => match i with  | _ => [], keep := fun i => match i with  | _ => [] }
theorem wire_Writer_Byte.eq (t0 : Value) (t1 : Value) (h0 : PH) (R : Value → PH → Prop) : codeF PG wire_Writer_Byte.ann 200 (bodyOf Try.f32) (endH PG Try.f32 R) (fun t => (#[t0, t1] : Array Value).getD t undef) h0 = wire_Writer_Byte t0 t1 h0 R := by kernel_rfl
theorem wire_Writer_Byte.call {t0 : Value} {t1 : Value} {h0 : PH} {R : Value → PH → Prop} (H : wire_Writer_Byte t0 t1 h0 R) : CallsH PG id_wire_Writer_Byte #[t0, t1] h0 R :=
  callsF_by wire_Writer_Byte.ann 200 mix Try.func32 (by kernel_rfl) (by kernel_rfl) (by kernel_rfl) (by kernel_rfl) (by simp [Try.ntmps32]) (wire_Writer_Byte.eq t0 t1 h0 R) H

def wire_memory_Fail (t0 : Value) (t1 : Value) (h0 : PH) (R : Value → PH → Prop) : Prop :=
 popO (SemP PG (nilS t0)) fun v1 =>
 popO (SemP PG (Instr.fieldAt T_wire_memory v1 0)) fun v2 =>
 popO (SemE PG h0 (Instr.loadAt T_api_Errno v2)) fun v3 =>
 popO (SemE PG h0 (binS BinOp.eql T_api_Errno (.tmp 7) (.const (Value.int IntKind.i64 0)) v3 (Value.int IntKind.i64 0))) fun v4 =>
 condV v4
 (popO (SemP PG (nilS t0)) fun v5 =>
 popO (SemP PG (Instr.fieldAt T_wire_memory v5 0)) fun v6 =>
 SemH PG (storeS T_api_Errno v6 t1) h0 fun v7 h8 =>
 R (Value.tuple #[]) h8)
 (R (Value.tuple #[]) h0)
def wire_memory_Fail.ann : Ann := { b := fun i => match i with  | _ => #[], ord := fun i => match i with  | _ => [], keep := fun i => match i with  | _ => [] }
theorem wire_memory_Fail.eq (t0 : Value) (t1 : Value) (h0 : PH) (R : Value → PH → Prop) : codeF PG wire_memory_Fail.ann 200 (bodyOf Try.f42) (endH PG Try.f42 R) (fun t => (#[t0, t1] : Array Value).getD t undef) h0 = wire_memory_Fail t0 t1 h0 R := by kernel_rfl
theorem wire_memory_Fail.call {t0 : Value} {t1 : Value} {h0 : PH} {R : Value → PH → Prop} (H : wire_memory_Fail t0 t1 h0 R) : CallsH PG id_wire_memory_Fail #[t0, t1] h0 R :=
  callsF_by wire_memory_Fail.ann 200 mix Try.func42 (by kernel_rfl) (by kernel_rfl) (by kernel_rfl) (by kernel_rfl) (by simp [Try.ntmps42]) (wire_memory_Fail.eq t0 t1 h0 R) H

def wire_Writer_put_b3 (R : Value → PH → Prop) (n2 : List Value → PH → Prop) (t0 : Value) (t1 : Value) (t6 : Value) (h0 : PH) : Prop :=
 popO (SemP PG (binOp BinOp.geq T_int t6 (Value.int IntKind.i64 0))) fun v4 =>
 condV v4
 (popO (SemP PG (nilS t0)) fun v5 =>
 popO (SemP PG (Instr.fieldAt T_wire_Writer v5 1)) fun v6 =>
 popO (SemP PG (binOp BinOp.mul T_int (Value.int IntKind.i64 8) t6)) fun v7 =>
 popO (SemP PG (binOp BinOp.shr T_uint64 t1 v7)) fun v8 =>
 popO (SemP PG (convert T_uint64 T_uint8 v8)) fun v9 =>
 CallsH PG id_strings_Builder_WriteByte #[v6, v9] h0 fun v10 h11 =>
 (popO (SemP PG (binOp BinOp.sub T_int t6 (Value.int IntKind.i64 1))) fun v12 =>
 n2 [t0, t1, v12] h11))
 (R (Value.tuple #[]) h0)
def wire_Writer_put (t0 : Value) (t1 : Value) (t2 : Value) (h0 : PH) (R : Value → PH → Prop) : Prop :=
 popO (SemP PG (binOp BinOp.sub T_int t2 (Value.int IntKind.i64 1))) fun v1 =>
 LoopL [0, 1, 6] (fun n2 ρ h => wire_Writer_put_b3 R n2 (ρ 0) (ρ 1) (ρ 6) h) [t0, t1, v1] h0
def wire_Writer_put.ann : Ann := { b := fun i => match i with | 3 => #[0, 1, 3, 0, 0, 16, 56, 120, 255] | _ => #[], ord := fun i => match i with | 3 => [0, 1, 2, 3, 4, 5, 6, 7, 8] | _ => [], keep := fun i => match i with | 1 => [0, 1, 6] | _ => [] }
theorem wire_Writer_put.eq (t0 : Value) (t1 : Value) (t2 : Value) (h0 : PH) (R : Value → PH → Prop) : codeF PG wire_Writer_put.ann 200 (bodyOf Try.f57) (endH PG Try.f57 R) (fun t => (#[t0, t1, t2] : Array Value).getD t undef) h0 = wire_Writer_put t0 t1 t2 h0 R := by kernel_rfl
theorem wire_Writer_put.call {t0 : Value} {t1 : Value} {t2 : Value} {h0 : PH} {R : Value → PH → Prop} (H : wire_Writer_put t0 t1 t2 h0 R) : CallsH PG id_wire_Writer_put #[t0, t1, t2] h0 R :=
  callsF_by wire_Writer_put.ann 200 mix Try.func57 (by kernel_rfl) (by kernel_rfl) (by kernel_rfl) (by kernel_rfl) (by simp [Try.ntmps57]) (wire_Writer_put.eq t0 t1 t2 h0 R) H

def strings_Builder_WriteByte (t0 : Value) (t1 : Value) (h0 : PH) (R : Value → PH → Prop) : Prop :=
 CallsH PG id_strings_Builder_copyCheck #[t0] h0 fun v1 h2 =>
 popO (SemP PG (nilS t0)) fun v3 =>
 popO (SemP PG (Instr.fieldAt T_strings_Builder v3 1)) fun v4 =>
 popO (SemE PG h2 (Instr.loadAt T_sl_uint8 v4)) fun v5 =>
 popO (SemA PG (Instr.buildSlice T_sl_uint8 1 #[(0, t1)])) fun x7 => ∀ r6, h2 r6 = none → popO (SemP PG (x7.2 r6)) fun v8 => bindH (PH.set h2 r6 x7.1) fun h9 =>
 SemH PG (Builtin.append_ #[T_sl_uint8, T_sl_uint8] T_sl_uint8 #[v5, v8]) h9 fun v10 h11 =>
 popO (SemP PG (nilS t0)) fun v12 =>
 popO (SemP PG (Instr.fieldAt T_strings_Builder v12 1)) fun v13 =>
 SemH PG (storeS T_sl_uint8 v13 v10) h11 fun v14 h15 =>
 R Value.nilIface h15
def strings_Builder_WriteByte.ann : Ann := { b := fun i => match i with  | _ => #[], ord := fun i => match i with  | _ => [], keep := fun i => match i with  | _ => [] }
theorem strings_Builder_WriteByte.eq (t0 : Value) (t1 : Value) (h0 : PH) (R : Value → PH → Prop) : codeF PG strings_Builder_WriteByte.ann 200 (bodyOf Try.f70) (endH PG Try.f70 R) (fun t => (#[t0, t1] : Array Value).getD t undef) h0 = strings_Builder_WriteByte t0 t1 h0 R := by kernel_rfl
theorem strings_Builder_WriteByte.call {t0 : Value} {t1 : Value} {h0 : PH} {R : Value → PH → Prop} (H : strings_Builder_WriteByte t0 t1 h0 R) : CallsH PG id_strings_Builder_WriteByte #[t0, t1] h0 R :=
  callsF_by strings_Builder_WriteByte.ann 200 mix Try.func70 (by kernel_rfl) (by kernel_rfl) (by kernel_rfl) (by kernel_rfl) (by simp [Try.ntmps70]) (strings_Builder_WriteByte.eq t0 t1 h0 R) H

def strings_Builder_copyCheck (t0 : Value) (h0 : PH) (R : Value → PH → Prop) : Prop :=
 popO (SemP PG (nilS t0)) fun v1 =>
 popO (SemP PG (Instr.fieldAt T_strings_Builder v1 0)) fun v2 =>
 popO (SemE PG h0 (Instr.loadAt T_p_strings_Builder v2)) fun v3 =>
 popO (SemE PG h0 (binS BinOp.eql T_p_strings_Builder (.tmp 5) (.const (Value.pointer none)) v3 (Value.pointer none))) fun v4 =>
 condV v4
 (SemH PG (convert T_p_strings_Builder T_unsafe_Pointer t0) h0 fun v5 h6 =>
 CallsH PG id_internal_abi_NoEscape #[v5] h6 fun v7 h8 =>
 SemH PG (convert T_unsafe_Pointer T_p_strings_Builder v7) h8 fun v9 h10 =>
 popO (SemP PG (nilS t0)) fun v11 =>
 popO (SemP PG (Instr.fieldAt T_strings_Builder v11 0)) fun v12 =>
 SemH PG (storeS T_p_strings_Builder v12 v9) h10 fun v13 h14 =>
 R (Value.tuple #[]) h14)
 (popO (SemP PG (nilS t0)) fun v15 =>
 popO (SemP PG (Instr.fieldAt T_strings_Builder v15 0)) fun v16 =>
 popO (SemE PG h0 (Instr.loadAt T_p_strings_Builder v16)) fun v17 =>
 popO (SemE PG h0 (binS BinOp.neq T_p_strings_Builder (.tmp 17) (.tmp 18) v17 t0)) fun v18 =>
 condV v18
 (False)
 (R (Value.tuple #[]) h0))
def strings_Builder_copyCheck.ann : Ann := { b := fun i => match i with  | _ => #[], ord := fun i => match i with  | _ => [], keep := fun i => match i with  | _ => [] }
theorem strings_Builder_copyCheck.eq (t0 : Value) (h0 : PH) (R : Value → PH → Prop) : codeF PG strings_Builder_copyCheck.ann 200 (bodyOf Try.f73) (endH PG Try.f73 R) (fun t => (#[t0] : Array Value).getD t undef) h0 = strings_Builder_copyCheck t0 h0 R := by kernel_rfl
theorem strings_Builder_copyCheck.call {t0 : Value} {h0 : PH} {R : Value → PH → Prop} (H : strings_Builder_copyCheck t0 h0 R) : CallsH PG id_strings_Builder_copyCheck #[t0] h0 R :=
  callsF_by strings_Builder_copyCheck.ann 200 mix Try.func73 (by kernel_rfl) (by kernel_rfl) (by kernel_rfl) (by kernel_rfl) (by simp [Try.ntmps73]) (strings_Builder_copyCheck.eq t0 h0 R) H

def script_forms_2 (t0 : Value) (t1 : Value) (h0 : PH) (R : Value → PH → Prop) : Prop :=
 CallsH PG id_wire_Reader_Byte #[t0] h0 fun v1 h2 =>
 popO (SemP PG (nilS t1)) fun v3 =>
 popO (SemP PG (Instr.fieldAt T_api_Act v3 1)) fun v4 =>
 SemH PG (storeS T_int v4 v1) h2 fun v5 h6 =>
 R (Value.tuple #[]) h6
def script_forms_2.ann : Ann := { b := fun i => match i with  | _ => #[], ord := fun i => match i with  | _ => [], keep := fun i => match i with  | _ => [] }
theorem script_forms_2.eq (t0 : Value) (t1 : Value) (h0 : PH) (R : Value → PH → Prop) : codeF PG script_forms_2.ann 200 (bodyOf Try.f45) (endH PG Try.f45 R) (fun t => (#[t0, t1] : Array Value).getD t undef) h0 = script_forms_2 t0 t1 h0 R := by kernel_rfl
theorem script_forms_2.call {t0 : Value} {t1 : Value} {h0 : PH} {R : Value → PH → Prop} (H : script_forms_2 t0 t1 h0 R) : CallsH PG id_script_forms_2 #[t0, t1] h0 R :=
  callsF_by script_forms_2.ann 200 mix Try.func45 (by kernel_rfl) (by kernel_rfl) (by kernel_rfl) (by kernel_rfl) (by simp [Try.ntmps45]) (script_forms_2.eq t0 t1 h0 R) H

def wire_Reader_Byte (t0 : Value) (h0 : PH) (R : Value → PH → Prop) : Prop :=
 CallsH PG id_wire_Reader_get #[t0, (Value.int IntKind.i64 1)] h0 fun v1 h2 =>
 popO (SemP PG (convert T_uint64 T_int v1)) fun v3 =>
 R v3 h2
def wire_Reader_Byte.ann : Ann := { b := fun i => match i with  | _ => #[], ord := fun i => match i with  | _ => [], keep := fun i => match i with  | _ => [] }
theorem wire_Reader_Byte.eq (t0 : Value) (h0 : PH) (R : Value → PH → Prop) : codeF PG wire_Reader_Byte.ann 200 (bodyOf Try.f20) (endH PG Try.f20 R) (fun t => (#[t0] : Array Value).getD t undef) h0 = wire_Reader_Byte t0 h0 R := by kernel_rfl
theorem wire_Reader_Byte.call {t0 : Value} {h0 : PH} {R : Value → PH → Prop} (H : wire_Reader_Byte t0 h0 R) : CallsH PG id_wire_Reader_Byte #[t0] h0 R :=
  callsF_by wire_Reader_Byte.ann 200 mix Try.func20 (by kernel_rfl) (by kernel_rfl) (by kernel_rfl) (by kernel_rfl) (by simp [Try.ntmps20]) (wire_Reader_Byte.eq t0 h0 R) H

def wire_Reader_get_b7 (R : Value → PH → Prop) (n6 : List Value → PH → Prop) (t5 : Value) (t11 : Value) (t12 : Value) (t13 : Value) (h0 : PH) : Prop :=
 popO (SemP PG (binOp BinOp.lss T_int t13 t12)) fun v8 =>
 condV v8
 (popO (SemP PG (Instr.indexAt T_sl_uint8 t11 t13)) fun v9 =>
 popO (SemE PG h0 (Instr.loadAt T_uint8 v9)) fun v10 =>
 popO (SemP PG (binOp BinOp.shl T_uint64 t5 (Value.int IntKind.u64 8))) fun v11 =>
 popO (SemP PG (convert T_uint8 T_uint64 v10)) fun v12 =>
 popO (SemP PG (binOp BinOp.or T_uint64 v11 v12)) fun v13 =>
 popO (SemP PG (binOp BinOp.add T_int t13 (Value.int IntKind.i64 1))) fun v14 =>
 n6 [v13, t11, t12, v14] h0)
 (R t5 h0)
def wire_Reader_get (t0 : Value) (t1 : Value) (h0 : PH) (R : Value → PH → Prop) : Prop :=
 CallsH PG id_wire_Reader_Raw #[t0, t1] h0 fun v1 h2 =>
 SemH PG (convert T_string T_sl_uint8 v1) h2 fun v3 h4 =>
 popO (SemP PG (Builtin.len_ #[T_sl_uint8] T_int #[v3])) fun v5 =>
 LoopL [5, 11, 12, 13] (fun n6 ρ h => wire_Reader_get_b7 R n6 (ρ 5) (ρ 11) (ρ 12) (ρ 13) h) [(Value.int IntKind.u64 0), v3, v5, (Value.int IntKind.i64 0)] h4
def wire_Reader_get.ann : Ann := { b := fun i => match i with  | _ => #[], ord := fun i => match i with  | _ => [], keep := fun i => match i with | 3 => [5, 11, 12, 13] | _ => [] }
theorem wire_Reader_get.eq (t0 : Value) (t1 : Value) (h0 : PH) (R : Value → PH → Prop) : codeF PG wire_Reader_get.ann 200 (bodyOf Try.f41) (endH PG Try.f41 R) (fun t => (#[t0, t1] : Array Value).getD t undef) h0 = wire_Reader_get t0 t1 h0 R := by kernel_rfl
theorem wire_Reader_get.call {t0 : Value} {t1 : Value} {h0 : PH} {R : Value → PH → Prop} (H : wire_Reader_get t0 t1 h0 R) : CallsH PG id_wire_Reader_get #[t0, t1] h0 R :=
  callsF_by wire_Reader_get.ann 200 mix Try.func41 (by kernel_rfl) (by kernel_rfl) (by kernel_rfl) (by kernel_rfl) (by simp [Try.ntmps41]) (wire_Reader_get.eq t0 t1 h0 R) H

def wire_Reader_Raw_k33 (R : Value → PH → Prop) (t0 : Value) (t1 : Value) (h0 : PH) : Prop :=
 popO (SemP PG (nilS t0)) fun v34 =>
 popO (SemP PG (Instr.fieldAt T_wire_Reader v34 0)) fun v35 =>
 CallsH PG id_wire_memory_Err #[v35] h0 fun v36 h37 =>
 popO (SemE PG h37 (binS BinOp.neq T_api_Errno (.tmp 24) (.const (Value.int IntKind.i64 0)) v36 (Value.int IntKind.i64 0))) fun v38 =>
 condV v38
 (R (Value.string { data := #[] }) h37)
 (popO (SemP PG (nilS t0)) fun v39 =>
 popO (SemP PG (Instr.fieldAt T_wire_Reader v39 1)) fun v40 =>
 popO (SemE PG h37 (Instr.loadAt T_string v40)) fun v41 =>
 popO (SemP PG (Instr.sliceAt T_string v41 none (some t1) none)) fun v42 =>
 popO (SemP PG (nilS t0)) fun v43 =>
 popO (SemP PG (Instr.fieldAt T_wire_Reader v43 1)) fun v44 =>
 popO (SemE PG h37 (Instr.loadAt T_string v44)) fun v45 =>
 popO (SemP PG (Instr.sliceAt T_string v45 (some t1) none none)) fun v46 =>
 popO (SemP PG (nilS t0)) fun v47 =>
 popO (SemP PG (Instr.fieldAt T_wire_Reader v47 1)) fun v48 =>
 SemH PG (storeS T_string v48 v46) h37 fun v49 h50 =>
 R v42 h50)
def wire_Reader_Raw (t0 : Value) (t1 : Value) (h0 : PH) (R : Value → PH → Prop) : Prop :=
 popO (SemP PG (binOp BinOp.lss T_int t1 (Value.int IntKind.i64 0))) fun v1 =>
 gopV (yV v1) false (fun k4 => k4 t1 h0) h0 fun v2 h3 =>
 gopV (yV v1) false (fun k7 => k7 t0 h3) h3 fun v5 h6 =>
 gopV (yV v1) false (fun k10 => popO (SemP PG (nilS v5)) fun v11 => k10 v11 h6) h6 fun v8 h9 =>
 gopV (yV v1) false (fun k14 => popO (SemP PG (Instr.fieldAt T_wire_Reader v8 1)) fun v15 => k14 v15 h9) h9 fun v12 h13 =>
 gopV (yV v1) false (fun k18 => popO (SemE PG h13 (Instr.loadAt T_string v12)) fun v19 => k18 v19 h13) h13 fun v16 h17 =>
 gopV (yV v1) false (fun k22 => popO (SemP PG (Builtin.len_ #[T_string] T_int #[v16])) fun v23 => k22 v23 h17) h17 fun v20 h21 =>
 gopV (yV v1) false (fun k26 => popO (SemP PG (binOp BinOp.gtr T_int v2 v20)) fun v27 => k26 v27 h21) h21 fun v24 h25 =>
 popO (pickV v1 (Value.bool true) v24) fun v28 =>
 condV v28
 (popO (SemP PG (nilS t0)) fun v29 =>
 popO (SemP PG (Instr.fieldAt T_wire_Reader v29 0)) fun v30 =>
 CallsH PG id_wire_memory_Fail #[v30, (Value.int IntKind.i64 6)] h25 fun v31 h32 =>
 wire_Reader_Raw_k33 R t0 t1 h32)
 (wire_Reader_Raw_k33 R t0 t1 h25)
def wire_Reader_Raw.ann : Ann := { b := fun i => match i with  | _ => #[], ord := fun i => match i with  | _ => [], keep := fun i => match i with  | _ => [] }
theorem wire_Reader_Raw.eq (t0 : Value) (t1 : Value) (h0 : PH) (R : Value → PH → Prop) : codeF PG wire_Reader_Raw.ann 200 (bodyOf Try.f24) (endH PG Try.f24 R) (fun t => (#[t0, t1] : Array Value).getD t undef) h0 = wire_Reader_Raw t0 t1 h0 R := by kernel_rfl
theorem wire_Reader_Raw.call {t0 : Value} {t1 : Value} {h0 : PH} {R : Value → PH → Prop} (H : wire_Reader_Raw t0 t1 h0 R) : CallsH PG id_wire_Reader_Raw #[t0, t1] h0 R :=
  callsF_by wire_Reader_Raw.ann 200 mix Try.func24 (by kernel_rfl) (by kernel_rfl) (by kernel_rfl) (by kernel_rfl) (by simp [Try.ntmps24]) (wire_Reader_Raw.eq t0 t1 h0 R) H

def script_forms_3 (t0 : Value) (t1 : Value) (h0 : PH) (R : Value → PH → Prop) : Prop :=
 ∀ r1, h0 r1 = none → bindH (PH.set h0 r1 (.cells (Value.cells t1) T_api_Act)) fun h2 =>
 R (Value.tuple #[]) h2
def script_forms_3.ann : Ann := { b := fun i => match i with  | _ => #[], ord := fun i => match i with  | _ => [], keep := fun i => match i with  | _ => [] }
theorem script_forms_3.eq (t0 : Value) (t1 : Value) (h0 : PH) (R : Value → PH → Prop) : codeF PG script_forms_3.ann 200 (bodyOf Try.f46) (endH PG Try.f46 R) (fun t => (#[t0, t1] : Array Value).getD t undef) h0 = script_forms_3 t0 t1 h0 R := by kernel_rfl
theorem script_forms_3.call {t0 : Value} {t1 : Value} {h0 : PH} {R : Value → PH → Prop} (H : script_forms_3 t0 t1 h0 R) : CallsH PG id_script_forms_3 #[t0, t1] h0 R :=
  callsF_by script_forms_3.ann 200 mix Try.func46 (by kernel_rfl) (by kernel_rfl) (by kernel_rfl) (by kernel_rfl) (by simp [Try.ntmps46]) (script_forms_3.eq t0 t1 h0 R) H

def script_forms_4 (t0 : Value) (t1 : Value) (h0 : PH) (R : Value → PH → Prop) : Prop :=
 R (Value.tuple #[]) h0
def script_forms_4.ann : Ann := { b := fun i => match i with  | _ => #[], ord := fun i => match i with  | _ => [], keep := fun i => match i with  | _ => [] }
theorem script_forms_4.eq (t0 : Value) (t1 : Value) (h0 : PH) (R : Value → PH → Prop) : codeF PG script_forms_4.ann 200 (bodyOf Try.f47) (endH PG Try.f47 R) (fun t => (#[t0, t1] : Array Value).getD t undef) h0 = script_forms_4 t0 t1 h0 R := by kernel_rfl
theorem script_forms_4.call {t0 : Value} {t1 : Value} {h0 : PH} {R : Value → PH → Prop} (H : script_forms_4 t0 t1 h0 R) : CallsH PG id_script_forms_4 #[t0, t1] h0 R :=
  callsF_by script_forms_4.ann 200 mix Try.func47 (by kernel_rfl) (by kernel_rfl) (by kernel_rfl) (by kernel_rfl) (by simp [Try.ntmps47]) (script_forms_4.eq t0 t1 h0 R) H

def script_send (h0 : PH) (R : Value → PH → Prop) : Prop :=
 ∀ r1, h0 r1 = none → bindH (PH.set h0 r1 (.cells (zcells PG T_script_form) T_script_form)) fun h2 =>
 popO (SemP PG (Instr.build T_script_form #[(0, (Value.func (Fn.func id_script_send_1) #[] #[])), (1, (Value.func (Fn.func id_script_send_2) #[] #[]))])) fun v3 =>
 SemH PG (storeS T_script_form (Value.pointer (some ⟨r1, 0, none⟩)) v3) h2 fun v4 h5 =>
 popO (SemE PG h5 (Instr.loadAt T_script_form (Value.pointer (some ⟨r1, 0, none⟩)))) fun v6 =>
 R v6 h5
def script_send.ann : Ann := { b := fun i => match i with  | _ => #[], ord := fun i => match i with  | _ => [], keep := fun i => match i with  | _ => [] }
theorem script_send.eq (h0 : PH) (R : Value → PH → Prop) : codeF PG script_send.ann 200 (bodyOf Try.f48) (endH PG Try.f48 R) (fun t => (#[] : Array Value).getD t undef) h0 = script_send  h0 R := by kernel_rfl
theorem script_send.call {h0 : PH} {R : Value → PH → Prop} (H : script_send  h0 R) : CallsH PG id_script_send #[] h0 R :=
  callsF_by script_send.ann 200 mix Try.func48 (by kernel_rfl) (by kernel_rfl) (by kernel_rfl) (by kernel_rfl) (by simp [Try.ntmps48]) (script_send.eq  h0 R) H

def script_send_1 (t0 : Value) (t1 : Value) (h0 : PH) (R : Value → PH → Prop) : Prop :=
 ∀ r1, h0 r1 = none → bindH (PH.set h0 r1 (.cells (Value.cells t1) T_api_Act)) fun h2 =>
 popO (SemP PG (Instr.fieldAt T_api_Act (Value.pointer (some ⟨r1, 0, none⟩)) 1)) fun v3 =>
 popO (SemE PG h2 (Instr.loadAt T_int v3)) fun v4 =>
 CallsH PG id_wire_Writer_Byte #[t0, v4] h2 fun v5 h6 =>
 popO (SemP PG (Instr.fieldAt T_api_Act (Value.pointer (some ⟨r1, 0, none⟩)) 2)) fun v7 =>
 popO (SemE PG h6 (Instr.loadAt T_uint64 v7)) fun v8 =>
 CallsH PG id_wire_Writer_Number #[t0, v8] h6 fun v9 h10 =>
 popO (SemP PG (Instr.fieldAt T_api_Act (Value.pointer (some ⟨r1, 0, none⟩)) 3)) fun v11 =>
 popO (SemE PG h10 (Instr.loadAt T_string v11)) fun v12 =>
 CallsH PG id_wire_Writer_Text #[t0, v12] h10 fun v13 h14 =>
 R (Value.tuple #[]) h14
def script_send_1.ann : Ann := { b := fun i => match i with  | _ => #[], ord := fun i => match i with  | _ => [], keep := fun i => match i with  | _ => [] }
theorem script_send_1.eq (t0 : Value) (t1 : Value) (h0 : PH) (R : Value → PH → Prop) : codeF PG script_send_1.ann 200 (bodyOf Try.f59) (endH PG Try.f59 R) (fun t => (#[t0, t1] : Array Value).getD t undef) h0 = script_send_1 t0 t1 h0 R := by kernel_rfl
theorem script_send_1.call {t0 : Value} {t1 : Value} {h0 : PH} {R : Value → PH → Prop} (H : script_send_1 t0 t1 h0 R) : CallsH PG id_script_send_1 #[t0, t1] h0 R :=
  callsF_by script_send_1.ann 200 mix Try.func59 (by kernel_rfl) (by kernel_rfl) (by kernel_rfl) (by kernel_rfl) (by simp [Try.ntmps59]) (script_send_1.eq t0 t1 h0 R) H

def wire_Writer_Number (t0 : Value) (t1 : Value) (h0 : PH) (R : Value → PH → Prop) : Prop :=
 CallsH PG id_wire_Writer_put #[t0, t1, (Value.int IntKind.i64 8)] h0 fun v1 h2 =>
 R (Value.tuple #[]) h2
def wire_Writer_Number.ann : Ann := { b := fun i => match i with  | _ => #[], ord := fun i => match i with  | _ => [], keep := fun i => match i with  | _ => [] }
theorem wire_Writer_Number.eq (t0 : Value) (t1 : Value) (h0 : PH) (R : Value → PH → Prop) : codeF PG wire_Writer_Number.ann 200 (bodyOf Try.f35) (endH PG Try.f35 R) (fun t => (#[t0, t1] : Array Value).getD t undef) h0 = wire_Writer_Number t0 t1 h0 R := by kernel_rfl
theorem wire_Writer_Number.call {t0 : Value} {t1 : Value} {h0 : PH} {R : Value → PH → Prop} (H : wire_Writer_Number t0 t1 h0 R) : CallsH PG id_wire_Writer_Number #[t0, t1] h0 R :=
  callsF_by wire_Writer_Number.ann 200 mix Try.func35 (by kernel_rfl) (by kernel_rfl) (by kernel_rfl) (by kernel_rfl) (by simp [Try.ntmps35]) (wire_Writer_Number.eq t0 t1 h0 R) H

def wire_Writer_Text (t0 : Value) (t1 : Value) (h0 : PH) (R : Value → PH → Prop) : Prop :=
 popO (SemP PG (Builtin.len_ #[T_string] T_int #[t1])) fun v1 =>
 popO (SemP PG (binOp BinOp.gtr T_int v1 (Value.int IntKind.i64 65535))) fun v2 =>
 condV v2
 (popO (SemP PG (nilS t0)) fun v3 =>
 popO (SemP PG (Instr.fieldAt T_wire_Writer v3 0)) fun v4 =>
 CallsH PG id_wire_memory_Fail #[v4, (Value.int IntKind.i64 1)] h0 fun v5 h6 =>
 R (Value.tuple #[]) h6)
 (popO (SemP PG (Builtin.len_ #[T_string] T_int #[t1])) fun v7 =>
 popO (SemP PG (convert T_int T_uint64 v7)) fun v8 =>
 CallsH PG id_wire_Writer_put #[t0, v8, (Value.int IntKind.i64 2)] h0 fun v9 h10 =>
 CallsH PG id_wire_Writer_Raw #[t0, t1] h10 fun v11 h12 =>
 R (Value.tuple #[]) h12)
def wire_Writer_Text.ann : Ann := { b := fun i => match i with  | _ => #[], ord := fun i => match i with  | _ => [], keep := fun i => match i with  | _ => [] }
theorem wire_Writer_Text.eq (t0 : Value) (t1 : Value) (h0 : PH) (R : Value → PH → Prop) : codeF PG wire_Writer_Text.ann 200 (bodyOf Try.f60) (endH PG Try.f60 R) (fun t => (#[t0, t1] : Array Value).getD t undef) h0 = wire_Writer_Text t0 t1 h0 R := by kernel_rfl
theorem wire_Writer_Text.call {t0 : Value} {t1 : Value} {h0 : PH} {R : Value → PH → Prop} (H : wire_Writer_Text t0 t1 h0 R) : CallsH PG id_wire_Writer_Text #[t0, t1] h0 R :=
  callsF_by wire_Writer_Text.ann 200 mix Try.func60 (by kernel_rfl) (by kernel_rfl) (by kernel_rfl) (by kernel_rfl) (by simp [Try.ntmps60]) (wire_Writer_Text.eq t0 t1 h0 R) H

def wire_Writer_Raw (t0 : Value) (t1 : Value) (h0 : PH) (R : Value → PH → Prop) : Prop :=
 popO (SemP PG (nilS t0)) fun v1 =>
 popO (SemP PG (Instr.fieldAt T_wire_Writer v1 1)) fun v2 =>
 CallsH PG id_strings_Builder_WriteString #[v2, t1] h0 fun v3 h4 =>
 R (Value.tuple #[]) h4
def wire_Writer_Raw.ann : Ann := { b := fun i => match i with  | _ => #[], ord := fun i => match i with  | _ => [], keep := fun i => match i with  | _ => [] }
theorem wire_Writer_Raw.eq (t0 : Value) (t1 : Value) (h0 : PH) (R : Value → PH → Prop) : codeF PG wire_Writer_Raw.ann 200 (bodyOf Try.f71) (endH PG Try.f71 R) (fun t => (#[t0, t1] : Array Value).getD t undef) h0 = wire_Writer_Raw t0 t1 h0 R := by kernel_rfl
theorem wire_Writer_Raw.call {t0 : Value} {t1 : Value} {h0 : PH} {R : Value → PH → Prop} (H : wire_Writer_Raw t0 t1 h0 R) : CallsH PG id_wire_Writer_Raw #[t0, t1] h0 R :=
  callsF_by wire_Writer_Raw.ann 200 mix Try.func71 (by kernel_rfl) (by kernel_rfl) (by kernel_rfl) (by kernel_rfl) (by simp [Try.ntmps71]) (wire_Writer_Raw.eq t0 t1 h0 R) H

def strings_Builder_WriteString (t0 : Value) (t1 : Value) (h0 : PH) (R : Value → PH → Prop) : Prop :=
 CallsH PG id_strings_Builder_copyCheck #[t0] h0 fun v1 h2 =>
 popO (SemP PG (nilS t0)) fun v3 =>
 popO (SemP PG (Instr.fieldAt T_strings_Builder v3 1)) fun v4 =>
 popO (SemE PG h2 (Instr.loadAt T_sl_uint8 v4)) fun v5 =>
 SemH PG (Builtin.append_ #[T_sl_uint8, T_string] T_sl_uint8 #[v5, t1]) h2 fun v6 h7 =>
 popO (SemP PG (nilS t0)) fun v8 =>
 popO (SemP PG (Instr.fieldAt T_strings_Builder v8 1)) fun v9 =>
 SemH PG (storeS T_sl_uint8 v9 v6) h7 fun v10 h11 =>
 popO (SemP PG (Builtin.len_ #[T_string] T_int #[t1])) fun v12 =>
 R (Value.tuple #[v12, Value.nilIface]) h11
def strings_Builder_WriteString.ann : Ann := { b := fun i => match i with  | _ => #[], ord := fun i => match i with  | _ => [], keep := fun i => match i with  | _ => [] }
theorem strings_Builder_WriteString.eq (t0 : Value) (t1 : Value) (h0 : PH) (R : Value → PH → Prop) : codeF PG strings_Builder_WriteString.ann 200 (bodyOf Try.f74) (endH PG Try.f74 R) (fun t => (#[t0, t1] : Array Value).getD t undef) h0 = strings_Builder_WriteString t0 t1 h0 R := by kernel_rfl
theorem strings_Builder_WriteString.call {t0 : Value} {t1 : Value} {h0 : PH} {R : Value → PH → Prop} (H : strings_Builder_WriteString t0 t1 h0 R) : CallsH PG id_strings_Builder_WriteString #[t0, t1] h0 R :=
  callsF_by strings_Builder_WriteString.ann 200 mix Try.func74 (by kernel_rfl) (by kernel_rfl) (by kernel_rfl) (by kernel_rfl) (by simp [Try.ntmps74]) (strings_Builder_WriteString.eq t0 t1 h0 R) H

def script_send_2 (t0 : Value) (t1 : Value) (h0 : PH) (R : Value → PH → Prop) : Prop :=
 CallsH PG id_wire_Reader_Byte #[t0] h0 fun v1 h2 =>
 CallsH PG id_wire_Reader_Number #[t0] h2 fun v3 h4 =>
 CallsH PG id_wire_Reader_Text #[t0] h4 fun v5 h6 =>
 popO (SemP PG (nilS t1)) fun v7 =>
 popO (SemP PG (Instr.fieldAt T_api_Act v7 1)) fun v8 =>
 SemH PG (storeS T_int v8 v1) h6 fun v9 h10 =>
 popO (SemP PG (nilS t1)) fun v11 =>
 popO (SemP PG (Instr.fieldAt T_api_Act v11 2)) fun v12 =>
 SemH PG (storeS T_uint64 v12 v3) h10 fun v13 h14 =>
 popO (SemP PG (nilS t1)) fun v15 =>
 popO (SemP PG (Instr.fieldAt T_api_Act v15 3)) fun v16 =>
 SemH PG (storeS T_string v16 v5) h14 fun v17 h18 =>
 R (Value.tuple #[]) h18
def script_send_2.ann : Ann := { b := fun i => match i with  | _ => #[], ord := fun i => match i with  | _ => [], keep := fun i => match i with  | _ => [] }
theorem script_send_2.eq (t0 : Value) (t1 : Value) (h0 : PH) (R : Value → PH → Prop) : codeF PG script_send_2.ann 200 (bodyOf Try.f61) (endH PG Try.f61 R) (fun t => (#[t0, t1] : Array Value).getD t undef) h0 = script_send_2 t0 t1 h0 R := by kernel_rfl
theorem script_send_2.call {t0 : Value} {t1 : Value} {h0 : PH} {R : Value → PH → Prop} (H : script_send_2 t0 t1 h0 R) : CallsH PG id_script_send_2 #[t0, t1] h0 R :=
  callsF_by script_send_2.ann 200 mix Try.func61 (by kernel_rfl) (by kernel_rfl) (by kernel_rfl) (by kernel_rfl) (by simp [Try.ntmps61]) (script_send_2.eq t0 t1 h0 R) H

def wire_Reader_Number (t0 : Value) (h0 : PH) (R : Value → PH → Prop) : Prop :=
 CallsH PG id_wire_Reader_get #[t0, (Value.int IntKind.i64 8)] h0 fun v1 h2 =>
 R v1 h2
def wire_Reader_Number.ann : Ann := { b := fun i => match i with  | _ => #[], ord := fun i => match i with  | _ => [], keep := fun i => match i with  | _ => [] }
theorem wire_Reader_Number.eq (t0 : Value) (h0 : PH) (R : Value → PH → Prop) : codeF PG wire_Reader_Number.ann 200 (bodyOf Try.f22) (endH PG Try.f22 R) (fun t => (#[t0] : Array Value).getD t undef) h0 = wire_Reader_Number t0 h0 R := by kernel_rfl
theorem wire_Reader_Number.call {t0 : Value} {h0 : PH} {R : Value → PH → Prop} (H : wire_Reader_Number t0 h0 R) : CallsH PG id_wire_Reader_Number #[t0] h0 R :=
  callsF_by wire_Reader_Number.ann 200 mix Try.func22 (by kernel_rfl) (by kernel_rfl) (by kernel_rfl) (by kernel_rfl) (by simp [Try.ntmps22]) (wire_Reader_Number.eq t0 h0 R) H

def wire_Reader_Text (t0 : Value) (h0 : PH) (R : Value → PH → Prop) : Prop :=
 CallsH PG id_wire_Reader_get #[t0, (Value.int IntKind.i64 2)] h0 fun v1 h2 =>
 popO (SemP PG (convert T_uint64 T_int v1)) fun v3 =>
 CallsH PG id_wire_Reader_Raw #[t0, v3] h2 fun v4 h5 =>
 R v4 h5
def wire_Reader_Text.ann : Ann := { b := fun i => match i with  | _ => #[], ord := fun i => match i with  | _ => [], keep := fun i => match i with  | _ => [] }
theorem wire_Reader_Text.eq (t0 : Value) (h0 : PH) (R : Value → PH → Prop) : codeF PG wire_Reader_Text.ann 200 (bodyOf Try.f62) (endH PG Try.f62 R) (fun t => (#[t0] : Array Value).getD t undef) h0 = wire_Reader_Text t0 h0 R := by kernel_rfl
theorem wire_Reader_Text.call {t0 : Value} {h0 : PH} {R : Value → PH → Prop} (H : wire_Reader_Text t0 h0 R) : CallsH PG id_wire_Reader_Text #[t0] h0 R :=
  callsF_by wire_Reader_Text.ann 200 mix Try.func62 (by kernel_rfl) (by kernel_rfl) (by kernel_rfl) (by kernel_rfl) (by simp [Try.ntmps62]) (wire_Reader_Text.eq t0 h0 R) H

def script_number (h0 : PH) (R : Value → PH → Prop) : Prop :=
 ∀ r1, h0 r1 = none → bindH (PH.set h0 r1 (.cells (zcells PG T_script_form) T_script_form)) fun h2 =>
 popO (SemP PG (Instr.build T_script_form #[(0, (Value.func (Fn.func id_script_number_1) #[] #[])), (1, (Value.func (Fn.func id_script_number_2) #[] #[]))])) fun v3 =>
 SemH PG (storeS T_script_form (Value.pointer (some ⟨r1, 0, none⟩)) v3) h2 fun v4 h5 =>
 popO (SemE PG h5 (Instr.loadAt T_script_form (Value.pointer (some ⟨r1, 0, none⟩)))) fun v6 =>
 R v6 h5
def script_number.ann : Ann := { b := fun i => match i with  | _ => #[], ord := fun i => match i with  | _ => [], keep := fun i => match i with  | _ => [] }
theorem script_number.eq (h0 : PH) (R : Value → PH → Prop) : codeF PG script_number.ann 200 (bodyOf Try.f49) (endH PG Try.f49 R) (fun t => (#[] : Array Value).getD t undef) h0 = script_number  h0 R := by kernel_rfl
theorem script_number.call {h0 : PH} {R : Value → PH → Prop} (H : script_number  h0 R) : CallsH PG id_script_number #[] h0 R :=
  callsF_by script_number.ann 200 mix Try.func49 (by kernel_rfl) (by kernel_rfl) (by kernel_rfl) (by kernel_rfl) (by simp [Try.ntmps49]) (script_number.eq  h0 R) H

def script_number_1 (t0 : Value) (t1 : Value) (h0 : PH) (R : Value → PH → Prop) : Prop :=
 ∀ r1, h0 r1 = none → bindH (PH.set h0 r1 (.cells (Value.cells t1) T_api_Act)) fun h2 =>
 popO (SemP PG (Instr.fieldAt T_api_Act (Value.pointer (some ⟨r1, 0, none⟩)) 4)) fun v3 =>
 popO (SemE PG h2 (Instr.loadAt T_int v3)) fun v4 =>
 CallsH PG id_wire_Writer_Byte #[t0, v4] h2 fun v5 h6 =>
 R (Value.tuple #[]) h6
def script_number_1.ann : Ann := { b := fun i => match i with  | _ => #[], ord := fun i => match i with  | _ => [], keep := fun i => match i with  | _ => [] }
theorem script_number_1.eq (t0 : Value) (t1 : Value) (h0 : PH) (R : Value → PH → Prop) : codeF PG script_number_1.ann 200 (bodyOf Try.f63) (endH PG Try.f63 R) (fun t => (#[t0, t1] : Array Value).getD t undef) h0 = script_number_1 t0 t1 h0 R := by kernel_rfl
theorem script_number_1.call {t0 : Value} {t1 : Value} {h0 : PH} {R : Value → PH → Prop} (H : script_number_1 t0 t1 h0 R) : CallsH PG id_script_number_1 #[t0, t1] h0 R :=
  callsF_by script_number_1.ann 200 mix Try.func63 (by kernel_rfl) (by kernel_rfl) (by kernel_rfl) (by kernel_rfl) (by simp [Try.ntmps63]) (script_number_1.eq t0 t1 h0 R) H

def script_number_2 (t0 : Value) (t1 : Value) (h0 : PH) (R : Value → PH → Prop) : Prop :=
 CallsH PG id_wire_Reader_Byte #[t0] h0 fun v1 h2 =>
 popO (SemP PG (nilS t1)) fun v3 =>
 popO (SemP PG (Instr.fieldAt T_api_Act v3 4)) fun v4 =>
 SemH PG (storeS T_int v4 v1) h2 fun v5 h6 =>
 R (Value.tuple #[]) h6
def script_number_2.ann : Ann := { b := fun i => match i with  | _ => #[], ord := fun i => match i with  | _ => [], keep := fun i => match i with  | _ => [] }
theorem script_number_2.eq (t0 : Value) (t1 : Value) (h0 : PH) (R : Value → PH → Prop) : codeF PG script_number_2.ann 200 (bodyOf Try.f64) (endH PG Try.f64 R) (fun t => (#[t0, t1] : Array Value).getD t undef) h0 = script_number_2 t0 t1 h0 R := by kernel_rfl
theorem script_number_2.call {t0 : Value} {t1 : Value} {h0 : PH} {R : Value → PH → Prop} (H : script_number_2 t0 t1 h0 R) : CallsH PG id_script_number_2 #[t0, t1] h0 R :=
  callsF_by script_number_2.ann 200 mix Try.func64 (by kernel_rfl) (by kernel_rfl) (by kernel_rfl) (by kernel_rfl) (by simp [Try.ntmps64]) (script_number_2.eq t0 t1 h0 R) H

def script_forge (h0 : PH) (R : Value → PH → Prop) : Prop :=
 ∀ r1, h0 r1 = none → bindH (PH.set h0 r1 (.cells (zcells PG T_script_form) T_script_form)) fun h2 =>
 popO (SemP PG (Instr.build T_script_form #[(0, (Value.func (Fn.func id_script_forge_1) #[] #[])), (1, (Value.func (Fn.func id_script_forge_2) #[] #[]))])) fun v3 =>
 SemH PG (storeS T_script_form (Value.pointer (some ⟨r1, 0, none⟩)) v3) h2 fun v4 h5 =>
 popO (SemE PG h5 (Instr.loadAt T_script_form (Value.pointer (some ⟨r1, 0, none⟩)))) fun v6 =>
 R v6 h5
def script_forge.ann : Ann := { b := fun i => match i with  | _ => #[], ord := fun i => match i with  | _ => [], keep := fun i => match i with  | _ => [] }
theorem script_forge.eq (h0 : PH) (R : Value → PH → Prop) : codeF PG script_forge.ann 200 (bodyOf Try.f50) (endH PG Try.f50 R) (fun t => (#[] : Array Value).getD t undef) h0 = script_forge  h0 R := by kernel_rfl
theorem script_forge.call {h0 : PH} {R : Value → PH → Prop} (H : script_forge  h0 R) : CallsH PG id_script_forge #[] h0 R :=
  callsF_by script_forge.ann 200 mix Try.func50 (by kernel_rfl) (by kernel_rfl) (by kernel_rfl) (by kernel_rfl) (by simp [Try.ntmps50]) (script_forge.eq  h0 R) H

def script_forge_1 (t0 : Value) (t1 : Value) (h0 : PH) (R : Value → PH → Prop) : Prop :=
 ∀ r1, h0 r1 = none → bindH (PH.set h0 r1 (.cells (Value.cells t1) T_api_Act)) fun h2 =>
 popO (SemP PG (Instr.fieldAt T_api_Act (Value.pointer (some ⟨r1, 0, none⟩)) 5)) fun v3 =>
 popO (SemE PG h2 (Instr.loadAt T_api_Message v3)) fun v4 =>
 popO (SemP PG (Instr.fieldAt T_api_Act (Value.pointer (some ⟨r1, 0, none⟩)) 5)) fun v5 =>
 popO (SemP PG (Instr.fieldAt T_api_Message v5 3)) fun v6 =>
 popO (SemE PG h2 (Instr.loadAt T_api_Packet v6)) fun v7 =>
 ∀ r8, h2 r8 = none → bindH (PH.set h2 r8 (.cells (zcells PG T_api_Message) T_api_Message)) fun h9 =>
 ∀ r10, h9 r10 = none → bindH (PH.set h9 r10 (.cells (zcells PG T_api_Packet) T_api_Packet)) fun h11 =>
 SemH PG (storeS T_api_Message (Value.pointer (some ⟨r8, 0, none⟩)) v4) h11 fun v12 h13 =>
 SemE PG h13 (Instr.loadAt T_api_Packet v6) = some v7 ∧ (SemH PG (storeS T_api_Packet (Value.pointer (some ⟨r10, 0, none⟩)) v7) h13 fun v14 h15 =>
 (popO (SemP PG (Instr.fieldAt T_api_Message (Value.pointer (some ⟨r8, 0, none⟩)) 0)) fun v16 =>
 popO (SemE PG h15 (Instr.loadAt T_int v16)) fun v17 =>
 CallsH PG id_wire_Writer_Byte #[t0, v17] h15 fun v18 h19 =>
 popO (SemP PG (Instr.fieldAt T_api_Message (Value.pointer (some ⟨r8, 0, none⟩)) 1)) fun v20 =>
 popO (SemE PG h19 (Instr.loadAt T_int v20)) fun v21 =>
 CallsH PG id_wire_Writer_Byte #[t0, v21] h19 fun v22 h23 =>
 popO (SemP PG (Instr.fieldAt T_api_Message (Value.pointer (some ⟨r8, 0, none⟩)) 2)) fun v24 =>
 popO (SemE PG h23 (Instr.loadAt T_uint64 v24)) fun v25 =>
 CallsH PG id_wire_Writer_Number #[t0, v25] h23 fun v26 h27 =>
 popO (SemP PG (Instr.fieldAt T_api_Packet (Value.pointer (some ⟨r10, 0, none⟩)) 0)) fun v28 =>
 popO (SemE PG h27 (Instr.loadAt T_int v28)) fun v29 =>
 CallsH PG id_wire_Writer_Byte #[t0, v29] h27 fun v30 h31 =>
 popO (SemP PG (Instr.fieldAt T_api_Packet (Value.pointer (some ⟨r10, 0, none⟩)) 1)) fun v32 =>
 popO (SemE PG h31 (Instr.loadAt T_uint64 v32)) fun v33 =>
 CallsH PG id_wire_Writer_Number #[t0, v33] h31 fun v34 h35 =>
 popO (SemP PG (Instr.fieldAt T_api_Packet (Value.pointer (some ⟨r10, 0, none⟩)) 2)) fun v36 =>
 popO (SemE PG h35 (Instr.loadAt T_uint64 v36)) fun v37 =>
 CallsH PG id_wire_Writer_Number #[t0, v37] h35 fun v38 h39 =>
 popO (SemP PG (Instr.fieldAt T_api_Packet (Value.pointer (some ⟨r10, 0, none⟩)) 3)) fun v40 =>
 popO (SemE PG h39 (Instr.loadAt T_string v40)) fun v41 =>
 CallsH PG id_wire_Writer_Text #[t0, v41] h39 fun v42 h43 =>
 popO (SemP PG (Instr.fieldAt T_api_Message (Value.pointer (some ⟨r8, 0, none⟩)) 4)) fun v44 =>
 popO (SemE PG h43 (Instr.loadAt T_string v44)) fun v45 =>
 CallsH PG id_wire_Writer_Text #[t0, v45] h43 fun v46 h47 =>
 R (Value.tuple #[]) h47))
def script_forge_1.ann : Ann := { b := fun i => match i with | 1 => #[0, 1, 0, 4, 12, 0, 0, 99, 255] | _ => #[], ord := fun i => match i with | 1 => [0, 1, 2, 3, 4, 5, 6, 7, 8] | _ => [], keep := fun i => match i with  | _ => [] }
theorem script_forge_1.eq (t0 : Value) (t1 : Value) (h0 : PH) (R : Value → PH → Prop) : codeF PG script_forge_1.ann 200 (bodyOf Try.f65) (endH PG Try.f65 R) (fun t => (#[t0, t1] : Array Value).getD t undef) h0 = script_forge_1 t0 t1 h0 R := by kernel_rfl
theorem script_forge_1.call {t0 : Value} {t1 : Value} {h0 : PH} {R : Value → PH → Prop} (H : script_forge_1 t0 t1 h0 R) : CallsH PG id_script_forge_1 #[t0, t1] h0 R :=
  callsF_by script_forge_1.ann 200 mix Try.func65 (by kernel_rfl) (by kernel_rfl) (by kernel_rfl) (by kernel_rfl) (by simp [Try.ntmps65]) (script_forge_1.eq t0 t1 h0 R) H

def script_forge_2 (t0 : Value) (t1 : Value) (h0 : PH) (R : Value → PH → Prop) : Prop :=
 CallsH PG id_wire_Reader_Byte #[t0] h0 fun v1 h2 =>
 CallsH PG id_wire_Reader_Byte #[t0] h2 fun v3 h4 =>
 CallsH PG id_wire_Reader_Number #[t0] h4 fun v5 h6 =>
 popO (SemP PG (Instr.build T_api_Message #[(0, v1), (1, v3), (2, v5)])) fun v7 =>
 ∀ r8, h6 r8 = none → bindH (PH.set h6 r8 (.cells (zcells PG T_api_Message) T_api_Message)) fun h9 =>
 SemH PG (storeS T_api_Message (Value.pointer (some ⟨r8, 0, none⟩)) v7) h9 fun v10 h11 =>
 CallsH PG id_wire_Reader_Byte #[t0] h11 fun v12 h13 =>
 CallsH PG id_wire_Reader_Number #[t0] h13 fun v14 h15 =>
 CallsH PG id_wire_Reader_Number #[t0] h15 fun v16 h17 =>
 CallsH PG id_wire_Reader_Text #[t0] h17 fun v18 h19 =>
 popO (SemP PG (Instr.build T_api_Packet #[(0, v12), (1, v14), (2, v16), (3, v18)])) fun v20 =>
 popO (SemP PG (Instr.fieldAt T_api_Message (Value.pointer (some ⟨r8, 0, none⟩)) 3)) fun v21 =>
 SemH PG (storeS T_api_Packet v21 v20) h19 fun v22 h23 =>
 CallsH PG id_wire_Reader_Text #[t0] h23 fun v24 h25 =>
 popO (SemP PG (Instr.fieldAt T_api_Message (Value.pointer (some ⟨r8, 0, none⟩)) 4)) fun v26 =>
 SemH PG (storeS T_string v26 v24) h25 fun v27 h28 =>
 popO (SemE PG h28 (Instr.loadAt T_api_Message (Value.pointer (some ⟨r8, 0, none⟩)))) fun v29 =>
 popO (SemP PG (nilS t1)) fun v30 =>
 popO (SemP PG (Instr.fieldAt T_api_Act v30 5)) fun v31 =>
 SemH PG (storeS T_api_Message v31 v29) h28 fun v32 h33 =>
 R (Value.tuple #[]) h33
def script_forge_2.ann : Ann := { b := fun i => match i with  | _ => #[], ord := fun i => match i with  | _ => [], keep := fun i => match i with  | _ => [] }
theorem script_forge_2.eq (t0 : Value) (t1 : Value) (h0 : PH) (R : Value → PH → Prop) : codeF PG script_forge_2.ann 200 (bodyOf Try.f66) (endH PG Try.f66 R) (fun t => (#[t0, t1] : Array Value).getD t undef) h0 = script_forge_2 t0 t1 h0 R := by kernel_rfl
theorem script_forge_2.call {t0 : Value} {t1 : Value} {h0 : PH} {R : Value → PH → Prop} (H : script_forge_2 t0 t1 h0 R) : CallsH PG id_script_forge_2 #[t0, t1] h0 R :=
  callsF_by script_forge_2.ann 200 mix Try.func66 (by kernel_rfl) (by kernel_rfl) (by kernel_rfl) (by kernel_rfl) (by simp [Try.ntmps66]) (script_forge_2.eq t0 t1 h0 R) H

def script_crash (h0 : PH) (R : Value → PH → Prop) : Prop :=
 ∀ r1, h0 r1 = none → bindH (PH.set h0 r1 (.cells (zcells PG T_script_form) T_script_form)) fun h2 =>
 popO (SemP PG (Instr.build T_script_form #[(0, (Value.func (Fn.func id_script_crash_1) #[] #[])), (1, (Value.func (Fn.func id_script_crash_2) #[] #[]))])) fun v3 =>
 SemH PG (storeS T_script_form (Value.pointer (some ⟨r1, 0, none⟩)) v3) h2 fun v4 h5 =>
 popO (SemE PG h5 (Instr.loadAt T_script_form (Value.pointer (some ⟨r1, 0, none⟩)))) fun v6 =>
 R v6 h5
def script_crash.ann : Ann := { b := fun i => match i with  | _ => #[], ord := fun i => match i with  | _ => [], keep := fun i => match i with  | _ => [] }
theorem script_crash.eq (h0 : PH) (R : Value → PH → Prop) : codeF PG script_crash.ann 200 (bodyOf Try.f51) (endH PG Try.f51 R) (fun t => (#[] : Array Value).getD t undef) h0 = script_crash  h0 R := by kernel_rfl
theorem script_crash.call {h0 : PH} {R : Value → PH → Prop} (H : script_crash  h0 R) : CallsH PG id_script_crash #[] h0 R :=
  callsF_by script_crash.ann 200 mix Try.func51 (by kernel_rfl) (by kernel_rfl) (by kernel_rfl) (by kernel_rfl) (by simp [Try.ntmps51]) (script_crash.eq  h0 R) H

def script_crash_1_k22 (R : Value → PH → Prop) (n11 : List Value → PH → Prop) (t0 : Value) (t5 : Value) (t6 : Value) (t13 : Value) (t14 : Value) (t15 : Value) (h0 : PH) : Prop :=
 CallsH PG id_wire_Writer_Byte #[t0, t6] h0 fun v23 h24 =>
 popO (SemP PG (Instr.fieldAt T_api_Write t5 1)) fun v25 =>
 popO (SemE PG h24 (Instr.loadAt T_int v25)) fun v26 =>
 CallsH PG id_script_two #[t0, v26] h24 fun v27 h28 =>
 popO (SemP PG (binOp BinOp.add T_int t15 (Value.int IntKind.i64 1))) fun v29 =>
 n11 [t0, t13, t14, v29] h28
def script_crash_1_b12 (R : Value → PH → Prop) (n11 : List Value → PH → Prop) (t0 : Value) (t13 : Value) (t14 : Value) (t15 : Value) (h0 : PH) : Prop :=
 popO (SemP PG (binOp BinOp.lss T_int t15 t14)) fun v13 =>
 condV v13
 (popO (SemP PG (Instr.indexAt T_sl_api_Write t13 t15)) fun v14 =>
 popO (SemE PG h0 (Instr.loadAt T_api_Write v14)) fun v15 =>
 ∀ r16, h0 r16 = none → bindH (PH.set h0 r16 (.cells (zcells PG T_api_Write) T_api_Write)) fun h17 =>
 SemH PG (storeS T_api_Write (Value.pointer (some ⟨r16, 0, none⟩)) v15) h17 fun v18 h19 =>
 popO (SemP PG (Instr.fieldAt T_api_Write (Value.pointer (some ⟨r16, 0, none⟩)) 0)) fun v20 =>
 popO (SemE PG h19 (Instr.loadAt T_bool v20)) fun v21 =>
 condV v21
 (script_crash_1_k22 R n11 t0 (Value.pointer (some ⟨r16, 0, none⟩)) (Value.int IntKind.i64 1) t13 t14 t15 h19)
 (script_crash_1_k22 R n11 t0 (Value.pointer (some ⟨r16, 0, none⟩)) (Value.int IntKind.i64 0) t13 t14 t15 h19))
 (R (Value.tuple #[]) h0)
def script_crash_1 (t0 : Value) (t1 : Value) (h0 : PH) (R : Value → PH → Prop) : Prop :=
 ∀ r1, h0 r1 = none → bindH (PH.set h0 r1 (.cells (Value.cells t1) T_api_Act)) fun h2 =>
 popO (SemP PG (Instr.fieldAt T_api_Act (Value.pointer (some ⟨r1, 0, none⟩)) 6)) fun v3 =>
 popO (SemE PG h2 (Instr.loadAt T_sl_api_Write v3)) fun v4 =>
 popO (SemP PG (Builtin.len_ #[T_sl_api_Write] T_int #[v4])) fun v5 =>
 CallsH PG id_wire_Writer_Byte #[t0, v5] h2 fun v6 h7 =>
 popO (SemP PG (Instr.fieldAt T_api_Act (Value.pointer (some ⟨r1, 0, none⟩)) 6)) fun v8 =>
 popO (SemE PG h7 (Instr.loadAt T_sl_api_Write v8)) fun v9 =>
 popO (SemP PG (Builtin.len_ #[T_sl_api_Write] T_int #[v9])) fun v10 =>
 LoopL [0, 13, 14, 15] (fun n11 ρ h => script_crash_1_b12 R n11 (ρ 0) (ρ 13) (ρ 14) (ρ 15) h) [t0, v9, v10, (Value.int IntKind.i64 0)] h7
def script_crash_1.ann : Ann := { b := fun i => match i with  | _ => #[], ord := fun i => match i with  | _ => [], keep := fun i => match i with | 3 => [0, 13, 14, 15] | _ => [] }
theorem script_crash_1.eq (t0 : Value) (t1 : Value) (h0 : PH) (R : Value → PH → Prop) : codeF PG script_crash_1.ann 200 (bodyOf Try.f67) (endH PG Try.f67 R) (fun t => (#[t0, t1] : Array Value).getD t undef) h0 = script_crash_1 t0 t1 h0 R := by kernel_rfl
theorem script_crash_1.call {t0 : Value} {t1 : Value} {h0 : PH} {R : Value → PH → Prop} (H : script_crash_1 t0 t1 h0 R) : CallsH PG id_script_crash_1 #[t0, t1] h0 R :=
  callsF_by script_crash_1.ann 200 mix Try.func67 (by kernel_rfl) (by kernel_rfl) (by kernel_rfl) (by kernel_rfl) (by simp [Try.ntmps67]) (script_crash_1.eq t0 t1 h0 R) H

def script_two_k10 (R : Value → PH → Prop) (t0 : Value) (t1 : Value) (h0 : PH) : Prop :=
 popO (SemP PG (binOp BinOp.shr T_int t1 (Value.int IntKind.u64 8))) fun v11 =>
 CallsH PG id_wire_Writer_Byte #[t0, v11] h0 fun v12 h13 =>
 popO (SemP PG (binOp BinOp.and T_int t1 (Value.int IntKind.i64 255))) fun v14 =>
 CallsH PG id_wire_Writer_Byte #[t0, v14] h13 fun v15 h16 =>
 R (Value.tuple #[]) h16
def script_two (t0 : Value) (t1 : Value) (h0 : PH) (R : Value → PH → Prop) : Prop :=
 popO (SemP PG (binOp BinOp.lss T_int t1 (Value.int IntKind.i64 0))) fun v1 =>
 gopV (yV v1) false (fun k4 => k4 t1 h0) h0 fun v2 h3 =>
 gopV (yV v1) false (fun k7 => popO (SemP PG (binOp BinOp.gtr T_int v2 (Value.int IntKind.i64 65535))) fun v8 => k7 v8 h3) h3 fun v5 h6 =>
 popO (pickV v1 (Value.bool true) v5) fun v9 =>
 condV v9
 (script_two_k10 R t0 (Value.int IntKind.i64 (-256)) h6)
 (script_two_k10 R t0 t1 h6)
def script_two.ann : Ann := { b := fun i => match i with  | _ => #[], ord := fun i => match i with  | _ => [], keep := fun i => match i with  | _ => [] }
theorem script_two.eq (t0 : Value) (t1 : Value) (h0 : PH) (R : Value → PH → Prop) : codeF PG script_two.ann 200 (bodyOf Try.f34) (endH PG Try.f34 R) (fun t => (#[t0, t1] : Array Value).getD t undef) h0 = script_two t0 t1 h0 R := by kernel_rfl
theorem script_two.call {t0 : Value} {t1 : Value} {h0 : PH} {R : Value → PH → Prop} (H : script_two t0 t1 h0 R) : CallsH PG id_script_two #[t0, t1] h0 R :=
  callsF_by script_two.ann 200 mix Try.func34 (by kernel_rfl) (by kernel_rfl) (by kernel_rfl) (by kernel_rfl) (by simp [Try.ntmps34]) (script_two.eq t0 t1 h0 R) H

def script_crash_2_b4 (R : Value → PH → Prop) (n3 : List Value → PH → Prop) (t0 : Value) (t1 : Value) (t4 : Value) (h0 : PH) : Prop :=
 popO (SemP PG (binOp BinOp.gtr T_int t4 (Value.int IntKind.i64 0))) fun v5 =>
 gopV (yV v5) true (fun k8 => k8 t0 h0) h0 fun v6 h7 =>
 gopV (yV v5) true (fun k11 => popO (SemP PG (nilS v6)) fun v12 => k11 v12 h7) h7 fun v9 h10 =>
 gopV (yV v5) true (fun k15 => popO (SemP PG (Instr.fieldAt T_wire_Reader v9 0)) fun v16 => k15 v16 h10) h10 fun v13 h14 =>
 gopV (yV v5) true (fun k19 => CallsH PG id_wire_memory_Err #[v13] h14 fun v20 h21 => k19 v20 h21) h14 fun v17 h18 =>
 gopV (yV v5) true (fun k24 => popO (SemE PG h18 (binS BinOp.eql T_api_Errno (.tmp 13) (.const (Value.int IntKind.i64 0)) v17 (Value.int IntKind.i64 0))) fun v25 => k24 v25 h18) h18 fun v22 h23 =>
 popO (pickV v5 v22 (Value.bool false)) fun v26 =>
 condV v26
 (popO (SemP PG (nilS t1)) fun v27 =>
 popO (SemP PG (Instr.fieldAt T_api_Act v27 6)) fun v28 =>
 popO (SemE PG h23 (Instr.loadAt T_sl_api_Write v28)) fun v29 =>
 CallsH PG id_wire_Reader_Byte #[t0] h23 fun v30 h31 =>
 SemE PG h31 (Instr.loadAt T_sl_api_Write v28) = some v29 ∧ (popO (SemP PG (binOp BinOp.gtr T_int v30 (Value.int IntKind.i64 0))) fun v32 =>
 CallsH PG id_script_getTwo #[t0] h31 fun v33 h34 =>
 SemE PG h34 (Instr.loadAt T_sl_api_Write v28) = some v29 ∧ (popO (SemP PG (Instr.build T_api_Write #[(0, v32), (1, v33)])) fun v35 =>
 popO (SemA PG (Instr.buildSlice T_sl_api_Write 1 #[(0, v35)])) fun x37 => ∀ r36, h34 r36 = none → popO (SemP PG (x37.2 r36)) fun v38 => bindH (PH.set h34 r36 x37.1) fun h39 =>
 SemH PG (Builtin.append_ #[T_sl_api_Write, T_sl_api_Write] T_sl_api_Write #[v29, v38]) h39 fun v40 h41 =>
 (popO (SemP PG (nilS t1)) fun v42 =>
 popO (SemP PG (Instr.fieldAt T_api_Act v42 6)) fun v43 =>
 SemH PG (storeS T_sl_api_Write v43 v40) h41 fun v44 h45 =>
 (popO (SemP PG (binOp BinOp.sub T_int t4 (Value.int IntKind.i64 1))) fun v46 =>
 n3 [t0, t1, v46] h45)))))
 (R (Value.tuple #[]) h23)
def script_crash_2 (t0 : Value) (t1 : Value) (h0 : PH) (R : Value → PH → Prop) : Prop :=
 CallsH PG id_wire_Reader_Byte #[t0] h0 fun v1 h2 =>
 LoopL [0, 1, 4] (fun n3 ρ h => script_crash_2_b4 R n3 (ρ 0) (ρ 1) (ρ 4) h) [t0, t1, v1] h2
def script_crash_2.ann : Ann := { b := fun i => match i with | 3 => #[0, 0, 2, 6, 14, 0, 32, 96, 0, 352, 992, 2016, 4094, 8191, 16383, 32767] | _ => #[], ord := fun i => match i with | 3 => [0, 1, 2, 3, 4, 5, 8, 6, 7, 9, 10, 11, 12, 13, 14, 15] | _ => [], keep := fun i => match i with | 1 => [0, 1, 4] | _ => [] }
theorem script_crash_2.eq (t0 : Value) (t1 : Value) (h0 : PH) (R : Value → PH → Prop) : codeF PG script_crash_2.ann 200 (bodyOf Try.f68) (endH PG Try.f68 R) (fun t => (#[t0, t1] : Array Value).getD t undef) h0 = script_crash_2 t0 t1 h0 R := by kernel_rfl
theorem script_crash_2.call {t0 : Value} {t1 : Value} {h0 : PH} {R : Value → PH → Prop} (H : script_crash_2 t0 t1 h0 R) : CallsH PG id_script_crash_2 #[t0, t1] h0 R :=
  callsF_by script_crash_2.ann 200 mix Try.func68 (by kernel_rfl) (by kernel_rfl) (by kernel_rfl) (by kernel_rfl) (by simp [Try.ntmps68]) (script_crash_2.eq t0 t1 h0 R) H

def script_getTwo (t0 : Value) (h0 : PH) (R : Value → PH → Prop) : Prop :=
 CallsH PG id_wire_Reader_Byte #[t0] h0 fun v1 h2 =>
 popO (SemP PG (binOp BinOp.shl T_int v1 (Value.int IntKind.u64 8))) fun v3 =>
 CallsH PG id_wire_Reader_Byte #[t0] h2 fun v4 h5 =>
 popO (SemP PG (binOp BinOp.or T_int v3 v4)) fun v6 =>
 R v6 h5
def script_getTwo.ann : Ann := { b := fun i => match i with  | _ => #[], ord := fun i => match i with  | _ => [], keep := fun i => match i with  | _ => [] }
theorem script_getTwo.eq (t0 : Value) (h0 : PH) (R : Value → PH → Prop) : codeF PG script_getTwo.ann 200 (bodyOf Try.f21) (endH PG Try.f21 R) (fun t => (#[t0] : Array Value).getD t undef) h0 = script_getTwo t0 h0 R := by kernel_rfl
theorem script_getTwo.call {t0 : Value} {h0 : PH} {R : Value → PH → Prop} (H : script_getTwo t0 h0 R) : CallsH PG id_script_getTwo #[t0] h0 R :=
  callsF_by script_getTwo.ann 200 mix Try.func21 (by kernel_rfl) (by kernel_rfl) (by kernel_rfl) (by kernel_rfl) (by simp [Try.ntmps21]) (script_getTwo.eq t0 h0 R) H

def script_Put (t0 : Value) (h0 : PH) (R : Value → PH → Prop) : Prop :=
 ∀ r1, h0 r1 = none → bindH (PH.set h0 r1 (.cells (Value.cells t0) T_api_Act)) fun h2 =>
 popO (SemP PG (Instr.fieldAt T_api_Act (Value.pointer (some ⟨r1, 0, none⟩)) 0)) fun v3 =>
 popO (SemE PG h2 (Instr.loadAt T_int v3)) fun v4 =>
 popO (SemP PG (binOp BinOp.lss T_int v4 (Value.int IntKind.i64 0))) fun v5 =>
 gopV (yV v5) false (fun k8 => popO (SemP PG (Instr.fieldAt T_api_Act (Value.pointer (some ⟨r1, 0, none⟩)) 0)) fun v9 => k8 v9 h2) h2 fun v6 h7 =>
 gopV (yV v5) false (fun k12 => popO (SemE PG h7 (Instr.loadAt T_int v6)) fun v13 => k12 v13 h7) h7 fun v10 h11 =>
 gopV (yV v5) false (fun k16 => popO (SemP PG (binOp BinOp.geq T_int v10 (Value.int IntKind.i64 9))) fun v17 => k16 v17 h11) h11 fun v14 h15 =>
 popO (pickV v5 (Value.bool true) v14) fun v18 =>
 gopV (yV v18) false (fun k21 => popO (SemE PG h15 (Instr.loadAt T_api_Act (Value.pointer (some ⟨r1, 0, none⟩)))) fun v22 => k21 v22 h15) h15 fun v19 h20 =>
 gopV (yV v18) false (fun k25 => popO (SemE PG h20 (Instr.loadAt T_api_Act (Value.pointer (some ⟨r1, 0, none⟩)))) fun v26 => k25 v26 h20) h20 fun v23 h24 =>
 gopV (yV v18) false (fun k29 => CallsH PG id_script_only #[v23] h24 fun v30 h31 => k29 v30 h31) h24 fun v27 h28 =>
 ((yV v18 == some false) = true → SemE PG h28 (Instr.loadAt T_api_Act (Value.pointer (some ⟨r1, 0, none⟩))) = some v19) ∧ (gopV (yV v18) false (fun k34 => CallsH PG id_script_same #[v19, v27] h28 fun v35 h36 => k34 v35 h36) h28 fun v32 h33 =>
 (gopV (yV v18) false (fun k39 => popO (SemP PG (Op.unary UnOp.not v32)) fun v40 => k39 v40 h33) h33 fun v37 h38 =>
 popO (pickV v18 (Value.bool true) v37) fun v41 =>
 condV v41
 (R (Value.tuple #[(Value.string { data := #[] }), (Value.int IntKind.i64 5)]) h38)
 (∀ r42, h38 r42 = none → bindH (PH.set h38 r42 (.cells (zcells PG T_wire_Writer) T_wire_Writer)) fun h43 =>
 popO (SemP PG (Instr.fieldAt T_api_Act (Value.pointer (some ⟨r1, 0, none⟩)) 0)) fun v44 =>
 popO (SemE PG h43 (Instr.loadAt T_int v44)) fun v45 =>
 CallsH PG id_wire_Writer_Byte #[(Value.pointer (some ⟨r42, 0, none⟩)), v45] h43 fun v46 h47 =>
 popO (SemP PG (Instr.fieldAt T_api_Act (Value.pointer (some ⟨r1, 0, none⟩)) 0)) fun v48 =>
 popO (SemE PG h47 (Instr.loadAt T_int v48)) fun v49 =>
 popO (SemE PG h47 (Instr.loadAt T_api_Act (Value.pointer (some ⟨r1, 0, none⟩)))) fun v50 =>
 CallsH PG id_script_forms #[] h47 fun v51 h52 =>
 SemE PG h52 (Instr.loadAt T_api_Act (Value.pointer (some ⟨r1, 0, none⟩))) = some v50 ∧ SemE PG h52 (Instr.loadAt T_int v48) = some v49 ∧ (popO (SemP PG (Instr.index T_9_script_form v51 v49)) fun v53 =>
 popO (SemP PG (Instr.field T_script_form v53 0)) fun v54 =>
 callC PG v54 #[(Value.pointer (some ⟨r42, 0, none⟩)), v50] h52 fun v55 h56 =>
 (CallsH PG id_wire_Writer_Bytes #[(Value.pointer (some ⟨r42, 0, none⟩))] h56 fun v57 h58 =>
 popO (SemP PG (Instr.extract v57 0)) fun v59 =>
 popO (SemP PG (Instr.extract v57 1)) fun v60 =>
 R (Value.tuple #[v59, v60]) h58)))))
def script_Put.ann : Ann := { b := fun i => match i with | 1 => #[0, 1, 3, 7, 15, 31, 63, 127, 255, 511, 511, 1535, 4095, 8191, 16383] | 5 => #[0, 0, 2, 7, 15, 0, 63] | _ => #[], ord := fun i => match i with | 1 => [0, 1, 2, 3, 4, 5, 6, 7, 8, 9, 10, 11, 12, 13, 14] | 5 => [1, 2, 5, 0, 3, 4, 6] | _ => [], keep := fun i => match i with  | _ => [] }
theorem script_Put.eq (t0 : Value) (h0 : PH) (R : Value → PH → Prop) : codeF PG script_Put.ann 200 (bodyOf Try.f13) (endH PG Try.f13 R) (fun t => (#[t0] : Array Value).getD t undef) h0 = script_Put t0 h0 R := by kernel_rfl
theorem script_Put.call {t0 : Value} {h0 : PH} {R : Value → PH → Prop} (H : script_Put t0 h0 R) : CallsH PG id_script_Put #[t0] h0 R :=
  callsF_by script_Put.ann 200 mix Try.func13 (by kernel_rfl) (by kernel_rfl) (by kernel_rfl) (by kernel_rfl) (by simp [Try.ntmps13]) (script_Put.eq t0 h0 R) H

def script_same (t0 : Value) (t1 : Value) (h0 : PH) (R : Value → PH → Prop) : Prop :=
 ∀ r1, h0 r1 = none → bindH (PH.set h0 r1 (.cells (Value.cells t0) T_api_Act)) fun h2 =>
 ∀ r3, h2 r3 = none → bindH (PH.set h2 r3 (.cells (Value.cells t1) T_api_Act)) fun h4 =>
 popO (SemP PG (Instr.fieldAt T_api_Act (Value.pointer (some ⟨r1, 0, none⟩)) 6)) fun v5 =>
 popO (SemE PG h4 (Instr.loadAt T_sl_api_Write v5)) fun v6 =>
 popO (SemP PG (Instr.fieldAt T_api_Act (Value.pointer (some ⟨r3, 0, none⟩)) 6)) fun v7 =>
 popO (SemE PG h4 (Instr.loadAt T_sl_api_Write v7)) fun v8 =>
 CallsH PG id_slices_Equal_sl_api_Write_api_Write #[v6, v8] h4 fun v9 h10 =>
 popO (SemP PG (Op.unary UnOp.not v9)) fun v11 =>
 condV v11
 (R (Value.bool false) h10)
 (popO (SemP PG (Instr.fieldAt T_api_Act (Value.pointer (some ⟨r1, 0, none⟩)) 0)) fun v12 =>
 popO (SemE PG h10 (Instr.loadAt T_int v12)) fun v13 =>
 popO (SemP PG (Instr.fieldAt T_api_Act (Value.pointer (some ⟨r3, 0, none⟩)) 0)) fun v14 =>
 popO (SemE PG h10 (Instr.loadAt T_int v14)) fun v15 =>
 popO (SemE PG h10 (binS BinOp.eql T_int (.tmp 12) (.tmp 14) v13 v15)) fun v16 =>
 gopV (yV v16) true (fun k19 => popO (SemP PG (Instr.fieldAt T_api_Act (Value.pointer (some ⟨r1, 0, none⟩)) 1)) fun v20 => k19 v20 h10) h10 fun v17 h18 =>
 gopV (yV v16) true (fun k23 => popO (SemE PG h18 (Instr.loadAt T_int v17)) fun v24 => k23 v24 h18) h18 fun v21 h22 =>
 gopV (yV v16) true (fun k27 => popO (SemP PG (Instr.fieldAt T_api_Act (Value.pointer (some ⟨r3, 0, none⟩)) 1)) fun v28 => k27 v28 h22) h22 fun v25 h26 =>
 gopV (yV v16) true (fun k31 => popO (SemE PG h26 (Instr.loadAt T_int v25)) fun v32 => k31 v32 h26) h26 fun v29 h30 =>
 gopV (yV v16) true (fun k35 => popO (SemE PG h30 (binS BinOp.eql T_int (.tmp 18) (.tmp 20) v21 v29)) fun v36 => k35 v36 h30) h30 fun v33 h34 =>
 popO (pickV v16 v33 (Value.bool false)) fun v37 =>
 gopV (yV v37) true (fun k40 => popO (SemP PG (Instr.fieldAt T_api_Act (Value.pointer (some ⟨r1, 0, none⟩)) 2)) fun v41 => k40 v41 h34) h34 fun v38 h39 =>
 gopV (yV v37) true (fun k44 => popO (SemE PG h39 (Instr.loadAt T_uint64 v38)) fun v45 => k44 v45 h39) h39 fun v42 h43 =>
 gopV (yV v37) true (fun k48 => popO (SemP PG (Instr.fieldAt T_api_Act (Value.pointer (some ⟨r3, 0, none⟩)) 2)) fun v49 => k48 v49 h43) h43 fun v46 h47 =>
 gopV (yV v37) true (fun k52 => popO (SemE PG h47 (Instr.loadAt T_uint64 v46)) fun v53 => k52 v53 h47) h47 fun v50 h51 =>
 gopV (yV v37) true (fun k56 => popO (SemE PG h51 (binS BinOp.eql T_uint64 (.tmp 25) (.tmp 27) v42 v50)) fun v57 => k56 v57 h51) h51 fun v54 h55 =>
 popO (pickV v37 v54 (Value.bool false)) fun v58 =>
 gopV (yV v58) true (fun k61 => popO (SemP PG (Instr.fieldAt T_api_Act (Value.pointer (some ⟨r1, 0, none⟩)) 3)) fun v62 => k61 v62 h55) h55 fun v59 h60 =>
 gopV (yV v58) true (fun k65 => popO (SemE PG h60 (Instr.loadAt T_string v59)) fun v66 => k65 v66 h60) h60 fun v63 h64 =>
 gopV (yV v58) true (fun k69 => popO (SemP PG (Instr.fieldAt T_api_Act (Value.pointer (some ⟨r3, 0, none⟩)) 3)) fun v70 => k69 v70 h64) h64 fun v67 h68 =>
 gopV (yV v58) true (fun k73 => popO (SemE PG h68 (Instr.loadAt T_string v67)) fun v74 => k73 v74 h68) h68 fun v71 h72 =>
 gopV (yV v58) true (fun k77 => popO (SemE PG h72 (binS BinOp.eql T_string (.tmp 32) (.tmp 34) v63 v71)) fun v78 => k77 v78 h72) h72 fun v75 h76 =>
 popO (pickV v58 v75 (Value.bool false)) fun v79 =>
 gopV (yV v79) true (fun k82 => popO (SemP PG (Instr.fieldAt T_api_Act (Value.pointer (some ⟨r1, 0, none⟩)) 4)) fun v83 => k82 v83 h76) h76 fun v80 h81 =>
 gopV (yV v79) true (fun k86 => popO (SemE PG h81 (Instr.loadAt T_int v80)) fun v87 => k86 v87 h81) h81 fun v84 h85 =>
 gopV (yV v79) true (fun k90 => popO (SemP PG (Instr.fieldAt T_api_Act (Value.pointer (some ⟨r3, 0, none⟩)) 4)) fun v91 => k90 v91 h85) h85 fun v88 h89 =>
 gopV (yV v79) true (fun k94 => popO (SemE PG h89 (Instr.loadAt T_int v88)) fun v95 => k94 v95 h89) h89 fun v92 h93 =>
 gopV (yV v79) true (fun k98 => popO (SemE PG h93 (binS BinOp.eql T_int (.tmp 39) (.tmp 41) v84 v92)) fun v99 => k98 v99 h93) h93 fun v96 h97 =>
 popO (pickV v79 v96 (Value.bool false)) fun v100 =>
 gopV (yV v100) true (fun k103 => popO (SemP PG (Instr.fieldAt T_api_Act (Value.pointer (some ⟨r1, 0, none⟩)) 5)) fun v104 => k103 v104 h97) h97 fun v101 h102 =>
 gopV (yV v100) true (fun k107 => popO (SemE PG h102 (Instr.loadAt T_api_Message v101)) fun v108 => k107 v108 h102) h102 fun v105 h106 =>
 gopV (yV v100) true (fun k111 => popO (SemP PG (Instr.fieldAt T_api_Act (Value.pointer (some ⟨r3, 0, none⟩)) 5)) fun v112 => k111 v112 h106) h106 fun v109 h110 =>
 gopV (yV v100) true (fun k115 => popO (SemE PG h110 (Instr.loadAt T_api_Message v109)) fun v116 => k115 v116 h110) h110 fun v113 h114 =>
 gopV (yV v100) true (fun k119 => popO (SemE PG h114 (binS BinOp.eql T_api_Message (.tmp 46) (.tmp 48) v105 v113)) fun v120 => k119 v120 h114) h114 fun v117 h118 =>
 popO (pickV v100 v117 (Value.bool false)) fun v121 =>
 R v121 h118)
def script_same.ann : Ann := { b := fun i => match i with  | _ => #[], ord := fun i => match i with  | _ => [], keep := fun i => match i with  | _ => [] }
theorem script_same.eq (t0 : Value) (t1 : Value) (h0 : PH) (R : Value → PH → Prop) : codeF PG script_same.ann 200 (bodyOf Try.f30) (endH PG Try.f30 R) (fun t => (#[t0, t1] : Array Value).getD t undef) h0 = script_same t0 t1 h0 R := by kernel_rfl
theorem script_same.call {t0 : Value} {t1 : Value} {h0 : PH} {R : Value → PH → Prop} (H : script_same t0 t1 h0 R) : CallsH PG id_script_same #[t0, t1] h0 R :=
  callsF_by script_same.ann 200 mix Try.func30 (by kernel_rfl) (by kernel_rfl) (by kernel_rfl) (by kernel_rfl) (by simp [Try.ntmps30]) (script_same.eq t0 t1 h0 R) H

def slices_Equal_sl_api_Write_api_Write_b6 (R : Value → PH → Prop) (n5 : List Value → PH → Prop) (t0 : Value) (t1 : Value) (t12 : Value) (t13 : Value) (h0 : PH) : Prop :=
 popO (SemP PG (binOp BinOp.lss T_int t13 t12)) fun v7 =>
 condV v7
 (popO (SemP PG (Instr.indexAt T_sl_api_Write t0 t13)) fun v8 =>
 popO (SemE PG h0 (Instr.loadAt T_api_Write v8)) fun v9 =>
 popO (SemP PG (Instr.indexAt T_sl_api_Write t1 t13)) fun v10 =>
 popO (SemE PG h0 (Instr.loadAt T_api_Write v10)) fun v11 =>
 popO (SemE PG h0 (binS BinOp.neq T_api_Write (.tmp 19) (.tmp 23) v9 v11)) fun v12 =>
 condV v12
 (R (Value.bool false) h0)
 (popO (SemP PG (binOp BinOp.add T_int t13 (Value.int IntKind.i64 1))) fun v13 =>
 n5 [t0, t1, t12, v13] h0))
 (R (Value.bool true) h0)
def slices_Equal_sl_api_Write_api_Write (t0 : Value) (t1 : Value) (h0 : PH) (R : Value → PH → Prop) : Prop :=
 popO (SemP PG (Builtin.len_ #[T_sl_api_Write] T_int #[t0])) fun v1 =>
 popO (SemP PG (Builtin.len_ #[T_sl_api_Write] T_int #[t1])) fun v2 =>
 popO (SemE PG h0 (binS BinOp.neq T_int (.tmp 7) (.tmp 9) v1 v2)) fun v3 =>
 condV v3
 (R (Value.bool false) h0)
 (popO (SemP PG (Builtin.len_ #[T_sl_api_Write] T_int #[t0])) fun v4 =>
 LoopL [0, 1, 12, 13] (fun n5 ρ h => slices_Equal_sl_api_Write_api_Write_b6 R n5 (ρ 0) (ρ 1) (ρ 12) (ρ 13) h) [t0, t1, v4, (Value.int IntKind.i64 0)] h0)
def slices_Equal_sl_api_Write_api_Write.ann : Ann := { b := fun i => match i with | 6 => #[0, 0, 3, 7, 0, 0, 48, 112, 255] | _ => #[], ord := fun i => match i with | 6 => [0, 1, 2, 3, 4, 5, 6, 7, 8] | _ => [], keep := fun i => match i with | 4 => [0, 1, 12, 13] | _ => [] }
theorem slices_Equal_sl_api_Write_api_Write.eq (t0 : Value) (t1 : Value) (h0 : PH) (R : Value → PH → Prop) : codeF PG slices_Equal_sl_api_Write_api_Write.ann 200 (bodyOf Try.f56) (endH PG Try.f56 R) (fun t => (#[t0, t1] : Array Value).getD t undef) h0 = slices_Equal_sl_api_Write_api_Write t0 t1 h0 R := by kernel_rfl
theorem slices_Equal_sl_api_Write_api_Write.call {t0 : Value} {t1 : Value} {h0 : PH} {R : Value → PH → Prop} (H : slices_Equal_sl_api_Write_api_Write t0 t1 h0 R) : CallsH PG id_slices_Equal_sl_api_Write_api_Write #[t0, t1] h0 R :=
  callsF_by slices_Equal_sl_api_Write_api_Write.ann 200 mix Try.func56 (by kernel_rfl) (by kernel_rfl) (by kernel_rfl) (by kernel_rfl) (by simp [Try.ntmps56]) (slices_Equal_sl_api_Write_api_Write.eq t0 t1 h0 R) H

def script_only_k31 (R : Value → PH → Prop) (t2 : Value) (t3 : Value) (h0 : PH) : Prop :=
 popO (SemE PG h0 (Instr.loadAt T_api_Act t3)) fun v32 =>
 SemH PG (storeS T_api_Act t2 v32) h0 fun v33 h34 =>
 popO (SemE PG h34 (Instr.loadAt T_api_Act t2)) fun v35 =>
 R v35 h34
def script_only_k30 (R : Value → PH → Prop) (t2 : Value) (t3 : Value) (h0 : PH) : Prop :=
 script_only_k31 R t2 t3 h0
def script_only_k55 (R : Value → PH → Prop) (t1 : Value) (t2 : Value) (t3 : Value) (t35 : Value) (h0 : PH) : Prop :=
 condV t35
 (popO (SemP PG (Instr.fieldAt T_api_Act t1 4)) fun v56 =>
 popO (SemE PG h0 (Instr.loadAt T_int v56)) fun v57 =>
 popO (SemP PG (Instr.fieldAt T_api_Act t3 4)) fun v58 =>
 SemH PG (storeS T_int v58 v57) h0 fun v59 h60 =>
 script_only_k30 R t2 t3 h60)
 (script_only_k30 R t2 t3 h0)
def script_only (t0 : Value) (h0 : PH) (R : Value → PH → Prop) : Prop :=
 ∀ r1, h0 r1 = none → bindH (PH.set h0 r1 (.cells (Value.cells t0) T_api_Act)) fun h2 =>
 ∀ r3, h2 r3 = none → bindH (PH.set h2 r3 (.cells (zcells PG T_api_Act) T_api_Act)) fun h4 =>
 popO (SemP PG (Instr.fieldAt T_api_Act (Value.pointer (some ⟨r1, 0, none⟩)) 0)) fun v5 =>
 popO (SemE PG h4 (Instr.loadAt T_int v5)) fun v6 =>
 popO (SemP PG (Instr.build T_api_Act #[(0, v6)])) fun v7 =>
 ∀ r8, h4 r8 = none → bindH (PH.set h4 r8 (.cells (zcells PG T_api_Act) T_api_Act)) fun h9 =>
 SemH PG (storeS T_api_Act (Value.pointer (some ⟨r8, 0, none⟩)) v7) h9 fun v10 h11 =>
 popO (SemP PG (Instr.fieldAt T_api_Act (Value.pointer (some ⟨r1, 0, none⟩)) 0)) fun v12 =>
 popO (SemE PG h11 (Instr.loadAt T_int v12)) fun v13 =>
 popO (SemE PG h11 (binS BinOp.eql T_int (.tmp 8) (.const (Value.int IntKind.i64 0)) v13 (Value.int IntKind.i64 0))) fun v14 =>
 condV v14
 (popO (SemP PG (Instr.fieldAt T_api_Act (Value.pointer (some ⟨r1, 0, none⟩)) 1)) fun v15 =>
 popO (SemE PG h11 (Instr.loadAt T_int v15)) fun v16 =>
 popO (SemP PG (Instr.fieldAt T_api_Act (Value.pointer (some ⟨r1, 0, none⟩)) 2)) fun v17 =>
 popO (SemE PG h11 (Instr.loadAt T_uint64 v17)) fun v18 =>
 popO (SemP PG (Instr.fieldAt T_api_Act (Value.pointer (some ⟨r1, 0, none⟩)) 3)) fun v19 =>
 popO (SemE PG h11 (Instr.loadAt T_string v19)) fun v20 =>
 popO (SemP PG (Instr.fieldAt T_api_Act (Value.pointer (some ⟨r8, 0, none⟩)) 1)) fun v21 =>
 SemH PG (storeS T_int v21 v16) h11 fun v22 h23 =>
 SemE PG h23 (Instr.loadAt T_string v19) = some v20 ∧ SemE PG h23 (Instr.loadAt T_uint64 v17) = some v18 ∧ (popO (SemP PG (Instr.fieldAt T_api_Act (Value.pointer (some ⟨r8, 0, none⟩)) 2)) fun v24 =>
 SemH PG (storeS T_uint64 v24 v18) h23 fun v25 h26 =>
 SemE PG h26 (Instr.loadAt T_string v19) = some v20 ∧ (popO (SemP PG (Instr.fieldAt T_api_Act (Value.pointer (some ⟨r8, 0, none⟩)) 3)) fun v27 =>
 SemH PG (storeS T_string v27 v20) h26 fun v28 h29 =>
 (script_only_k30 R (Value.pointer (some ⟨r3, 0, none⟩)) (Value.pointer (some ⟨r8, 0, none⟩)) h29))))
 (popO (SemE PG h11 (binS BinOp.eql T_int (.tmp 8) (.const (Value.int IntKind.i64 1)) v13 (Value.int IntKind.i64 1))) fun v36 =>
 condV v36
 (popO (SemP PG (Instr.fieldAt T_api_Act (Value.pointer (some ⟨r1, 0, none⟩)) 1)) fun v37 =>
 popO (SemE PG h11 (Instr.loadAt T_int v37)) fun v38 =>
 popO (SemP PG (Instr.fieldAt T_api_Act (Value.pointer (some ⟨r8, 0, none⟩)) 1)) fun v39 =>
 SemH PG (storeS T_int v39 v38) h11 fun v40 h41 =>
 script_only_k30 R (Value.pointer (some ⟨r3, 0, none⟩)) (Value.pointer (some ⟨r8, 0, none⟩)) h41)
 (popO (SemE PG h11 (binS BinOp.eql T_int (.tmp 8) (.const (Value.int IntKind.i64 6)) v13 (Value.int IntKind.i64 6))) fun v42 =>
 condV v42
 (popO (SemP PG (Instr.fieldAt T_api_Act (Value.pointer (some ⟨r1, 0, none⟩)) 5)) fun v43 =>
 popO (SemE PG h11 (Instr.loadAt T_api_Message v43)) fun v44 =>
 popO (SemP PG (Instr.fieldAt T_api_Act (Value.pointer (some ⟨r8, 0, none⟩)) 5)) fun v45 =>
 SemH PG (storeS T_api_Message v45 v44) h11 fun v46 h47 =>
 script_only_k30 R (Value.pointer (some ⟨r3, 0, none⟩)) (Value.pointer (some ⟨r8, 0, none⟩)) h47)
 (popO (SemE PG h11 (binS BinOp.eql T_int (.tmp 8) (.const (Value.int IntKind.i64 8)) v13 (Value.int IntKind.i64 8))) fun v48 =>
 condV v48
 (popO (SemP PG (Instr.fieldAt T_api_Act (Value.pointer (some ⟨r1, 0, none⟩)) 6)) fun v49 =>
 popO (SemE PG h11 (Instr.loadAt T_sl_api_Write v49)) fun v50 =>
 popO (SemP PG (Instr.fieldAt T_api_Act (Value.pointer (some ⟨r8, 0, none⟩)) 6)) fun v51 =>
 SemH PG (storeS T_sl_api_Write v51 v50) h11 fun v52 h53 =>
 script_only_k30 R (Value.pointer (some ⟨r3, 0, none⟩)) (Value.pointer (some ⟨r8, 0, none⟩)) h53)
 (popO (SemE PG h11 (binS BinOp.eql T_int (.tmp 8) (.const (Value.int IntKind.i64 3)) v13 (Value.int IntKind.i64 3))) fun v54 =>
 condV v54
 (script_only_k55 R (Value.pointer (some ⟨r1, 0, none⟩)) (Value.pointer (some ⟨r3, 0, none⟩)) (Value.pointer (some ⟨r8, 0, none⟩)) v54 h11)
 (popO (SemE PG h11 (binS BinOp.eql T_int (.tmp 8) (.const (Value.int IntKind.i64 4)) v13 (Value.int IntKind.i64 4))) fun v61 =>
 condV v61
 (script_only_k55 R (Value.pointer (some ⟨r1, 0, none⟩)) (Value.pointer (some ⟨r3, 0, none⟩)) (Value.pointer (some ⟨r8, 0, none⟩)) v61 h11)
 (popO (SemE PG h11 (binS BinOp.eql T_int (.tmp 8) (.const (Value.int IntKind.i64 5)) v13 (Value.int IntKind.i64 5))) fun v62 =>
 condV v62
 (script_only_k55 R (Value.pointer (some ⟨r1, 0, none⟩)) (Value.pointer (some ⟨r3, 0, none⟩)) (Value.pointer (some ⟨r8, 0, none⟩)) v62 h11)
 (popO (SemE PG h11 (binS BinOp.eql T_int (.tmp 8) (.const (Value.int IntKind.i64 7)) v13 (Value.int IntKind.i64 7))) fun v63 =>
 script_only_k55 R (Value.pointer (some ⟨r1, 0, none⟩)) (Value.pointer (some ⟨r3, 0, none⟩)) (Value.pointer (some ⟨r8, 0, none⟩)) v63 h11)))))))
def script_only.ann : Ann := { b := fun i => match i with | 4 => #[0, 1, 0, 4, 0, 16, 3, 67, 207, 463, 1023, 2047] | _ => #[], ord := fun i => match i with | 4 => [0, 1, 2, 3, 4, 5, 6, 7, 8, 9, 10, 11] | _ => [], keep := fun i => match i with  | _ => [] }
theorem script_only.eq (t0 : Value) (h0 : PH) (R : Value → PH → Prop) : codeF PG script_only.ann 200 (bodyOf Try.f31) (endH PG Try.f31 R) (fun t => (#[t0] : Array Value).getD t undef) h0 = script_only t0 h0 R := by kernel_rfl
theorem script_only.call {t0 : Value} {h0 : PH} {R : Value → PH → Prop} (H : script_only t0 h0 R) : CallsH PG id_script_only #[t0] h0 R :=
  callsF_by script_only.ann 200 mix Try.func31 (by kernel_rfl) (by kernel_rfl) (by kernel_rfl) (by kernel_rfl) (by simp [Try.ntmps31]) (script_only.eq t0 h0 R) H

def wire_Writer_Bytes (t0 : Value) (h0 : PH) (R : Value → PH → Prop) : Prop :=
 popO (SemP PG (nilS t0)) fun v1 =>
 popO (SemP PG (Instr.fieldAt T_wire_Writer v1 0)) fun v2 =>
 CallsH PG id_wire_memory_Err #[v2] h0 fun v3 h4 =>
 popO (SemE PG h4 (binS BinOp.neq T_api_Errno (.tmp 9) (.const (Value.int IntKind.i64 0)) v3 (Value.int IntKind.i64 0))) fun v5 =>
 condV v5
 (R (Value.tuple #[(Value.string { data := #[] }), v3]) h4)
 (popO (SemP PG (nilS t0)) fun v6 =>
 popO (SemP PG (Instr.fieldAt T_wire_Writer v6 1)) fun v7 =>
 CallsH PG id_strings_Builder_String #[v7] h4 fun v8 h9 =>
 R (Value.tuple #[v8, (Value.int IntKind.i64 0)]) h9)
def wire_Writer_Bytes.ann : Ann := { b := fun i => match i with  | _ => #[], ord := fun i => match i with  | _ => [], keep := fun i => match i with  | _ => [] }
theorem wire_Writer_Bytes.eq (t0 : Value) (h0 : PH) (R : Value → PH → Prop) : codeF PG wire_Writer_Bytes.ann 200 (bodyOf Try.f33) (endH PG Try.f33 R) (fun t => (#[t0] : Array Value).getD t undef) h0 = wire_Writer_Bytes t0 h0 R := by kernel_rfl
theorem wire_Writer_Bytes.call {t0 : Value} {h0 : PH} {R : Value → PH → Prop} (H : wire_Writer_Bytes t0 h0 R) : CallsH PG id_wire_Writer_Bytes #[t0] h0 R :=
  callsF_by wire_Writer_Bytes.ann 200 mix Try.func33 (by kernel_rfl) (by kernel_rfl) (by kernel_rfl) (by kernel_rfl) (by simp [Try.ntmps33]) (wire_Writer_Bytes.eq t0 h0 R) H

def strings_Builder_String (t0 : Value) (h0 : PH) (R : Value → PH → Prop) : Prop :=
 popO (SemP PG (nilS t0)) fun v1 =>
 popO (SemP PG (Instr.fieldAt T_strings_Builder v1 1)) fun v2 =>
 popO (SemE PG h0 (Instr.loadAt T_sl_uint8 v2)) fun v3 =>
 popO (SemP PG (nilS t0)) fun v4 =>
 popO (SemP PG (Instr.fieldAt T_strings_Builder v4 1)) fun v5 =>
 popO (SemE PG h0 (Instr.loadAt T_sl_uint8 v5)) fun v6 =>
 popO (SemP PG (Builtin.len_ #[T_sl_uint8] T_int #[v6])) fun v7 =>
 SemH PG (Builtin.unsafeSliceData_ #[T_sl_uint8] T_p_uint8 #[v3]) h0 fun v8 h9 =>
 SemE PG h9 (Instr.loadAt T_sl_uint8 v5) = some v6 ∧ (SemH PG (Builtin.unsafeString_ #[T_p_uint8, T_int] T_string #[v8, v7]) h9 fun v10 h11 =>
 (R v10 h11))
def strings_Builder_String.ann : Ann := { b := fun i => match i with | 1 => #[0, 1, 3, 7, 15, 0, 32, 96, 224, 480, 1023, 2047] | _ => #[], ord := fun i => match i with | 1 => [0, 1, 2, 3, 5, 6, 7, 8, 9, 4, 10, 11] | _ => [], keep := fun i => match i with  | _ => [] }
theorem strings_Builder_String.eq (t0 : Value) (h0 : PH) (R : Value → PH → Prop) : codeF PG strings_Builder_String.ann 200 (bodyOf Try.f58) (endH PG Try.f58 R) (fun t => (#[t0] : Array Value).getD t undef) h0 = strings_Builder_String t0 h0 R := by kernel_rfl
theorem strings_Builder_String.call {t0 : Value} {h0 : PH} {R : Value → PH → Prop} (H : strings_Builder_String t0 h0 R) : CallsH PG id_strings_Builder_String #[t0] h0 R :=
  callsF_by strings_Builder_String.ann 200 mix Try.func58 (by kernel_rfl) (by kernel_rfl) (by kernel_rfl) (by kernel_rfl) (by simp [Try.ntmps58]) (strings_Builder_String.eq t0 h0 R) H

def script_Config_b30 (R : Value → PH → Prop) (n29 : List Value → PH → Prop) (t2 : Value) (t5 : Value) (t6 : Value) (t31 : Value) (t32 : Value) (h0 : PH) : Prop :=
 popO (SemP PG (binOp BinOp.lss T_int t32 (Value.int IntKind.i64 4))) fun v31 =>
 condV v31
 (popO (SemP PG (Instr.index T_4_p_uint64 t31 t32)) fun v32 =>
 CallsH PG id_wire_Reader_Number #[t5] h0 fun v33 h34 =>
 popO (SemP PG (nilS v32)) fun v35 =>
 SemH PG (storeS T_uint64 v35 v33) h34 fun v36 h37 =>
 popO (SemP PG (binOp BinOp.add T_int t32 (Value.int IntKind.i64 1))) fun v38 =>
 n29 [t2, t5, t6, t31, v38] h37)
 (popO (SemP PG (nilS t5)) fun v39 =>
 popO (SemP PG (Instr.fieldAt T_wire_Reader v39 0)) fun v40 =>
 CallsH PG id_wire_memory_Err #[v40] h0 fun v41 h42 =>
 popO (SemE PG h42 (binS BinOp.neq T_api_Errno (.tmp 44) (.const (Value.int IntKind.i64 0)) v41 (Value.int IntKind.i64 0))) fun v43 =>
 condV v43
 (popO (SemP PG (Instr.build T_api_Config #[])) fun v44 =>
 SemH PG (storeS T_api_Config t2 v44) h42 fun v45 h46 =>
 popO (SemE PG h46 (Instr.loadAt T_api_Config t2)) fun v47 =>
 R (Value.tuple #[v47, (Value.string { data := #[] }), v41]) h46)
 (popO (SemE PG h42 (Instr.loadAt T_api_Config t6)) fun v48 =>
 CallsH PG id_wire_Reader_Left #[t5] h42 fun v49 h50 =>
 SemE PG h50 (Instr.loadAt T_api_Config t6) = some v48 ∧ (CallsH PG id_wire_Reader_Raw #[t5, v49] h50 fun v51 h52 =>
 SemE PG h52 (Instr.loadAt T_api_Config t6) = some v48 ∧ (SemH PG (storeS T_api_Config t2 v48) h52 fun v53 h54 =>
 (popO (SemE PG h54 (Instr.loadAt T_api_Config t2)) fun v55 =>
 R (Value.tuple #[v55, v51, (Value.int IntKind.i64 0)]) h54)))))
def script_Config (t0 : Value) (h0 : PH) (R : Value → PH → Prop) : Prop :=
 ∀ r1, h0 r1 = none → bindH (PH.set h0 r1 (.cells (zcells PG T_api_Config) T_api_Config)) fun h2 =>
 CallsH PG id_wire_NewReader #[t0] h2 fun v3 h4 =>
 CallsH PG id_wire_Reader_Byte #[v3] h4 fun v5 h6 =>
 CallsH PG id_wire_Reader_Byte #[v3] h6 fun v7 h8 =>
 CallsH PG id_wire_Reader_Byte #[v3] h8 fun v9 h10 =>
 CallsH PG id_script_getTwo #[v3] h10 fun v11 h12 =>
 CallsH PG id_script_getTwo #[v3] h12 fun v13 h14 =>
 popO (SemP PG (Instr.build T_api_Config #[(2, v5), (3, v7), (4, v9), (0, v11), (1, v13)])) fun v15 =>
 ∀ r16, h14 r16 = none → bindH (PH.set h14 r16 (.cells (zcells PG T_api_Config) T_api_Config)) fun h17 =>
 SemH PG (storeS T_api_Config (Value.pointer (some ⟨r16, 0, none⟩)) v15) h17 fun v18 h19 =>
 popO (SemP PG (Instr.fieldAt T_api_Config (Value.pointer (some ⟨r16, 0, none⟩)) 5)) fun v20 =>
 popO (SemP PG (Instr.indexAt T_2_uint64 v20 (Value.int IntKind.i64 0))) fun v21 =>
 popO (SemP PG (Instr.fieldAt T_api_Config (Value.pointer (some ⟨r16, 0, none⟩)) 5)) fun v22 =>
 popO (SemP PG (Instr.indexAt T_2_uint64 v22 (Value.int IntKind.i64 1))) fun v23 =>
 popO (SemP PG (Instr.fieldAt T_api_Config (Value.pointer (some ⟨r16, 0, none⟩)) 6)) fun v24 =>
 popO (SemP PG (Instr.indexAt T_2_uint64 v24 (Value.int IntKind.i64 0))) fun v25 =>
 popO (SemP PG (Instr.fieldAt T_api_Config (Value.pointer (some ⟨r16, 0, none⟩)) 6)) fun v26 =>
 popO (SemP PG (Instr.indexAt T_2_uint64 v26 (Value.int IntKind.i64 1))) fun v27 =>
 popO (SemP PG (Instr.build T_4_p_uint64 #[(0, v21), (1, v23), (2, v25), (3, v27)])) fun v28 =>
 LoopL [2, 5, 6, 31, 32] (fun n29 ρ h => script_Config_b30 R n29 (ρ 2) (ρ 5) (ρ 6) (ρ 31) (ρ 32) h) [(Value.pointer (some ⟨r1, 0, none⟩)), v3, (Value.pointer (some ⟨r16, 0, none⟩)), v28, (Value.int IntKind.i64 0)] h19
def script_Config.ann : Ann := { b := fun i => match i with | 11 => #[0, 0, 0, 4, 14, 31, 63, 127] | _ => #[], ord := fun i => match i with | 11 => [0, 1, 2, 3, 4, 5, 6, 7] | _ => [], keep := fun i => match i with | 4 => [2, 5, 6, 31, 32] | _ => [] }
theorem script_Config.eq (t0 : Value) (h0 : PH) (R : Value → PH → Prop) : codeF PG script_Config.ann 200 (bodyOf Try.f7) (endH PG Try.f7 R) (fun t => (#[t0] : Array Value).getD t undef) h0 = script_Config t0 h0 R := by kernel_rfl
theorem script_Config.call {t0 : Value} {h0 : PH} {R : Value → PH → Prop} (H : script_Config t0 h0 R) : CallsH PG id_script_Config #[t0] h0 R :=
  callsF_by script_Config.ann 200 mix Try.func7 (by kernel_rfl) (by kernel_rfl) (by kernel_rfl) (by kernel_rfl) (by simp [Try.ntmps7]) (script_Config.eq t0 h0 R) H

def carrackref23_Config (t0 : Value) (h0 : PH) (R : Value → PH → Prop) : Prop :=
 ∀ r1, h0 r1 = none → bindH (PH.set h0 r1 (.cells (zcells PG T_api_Config) T_api_Config)) fun h2 =>
 popO (SemP PG (Builtin.len_ #[T_string] T_int #[t0])) fun v3 =>
 popO (SemP PG (binOp BinOp.lss T_int v3 (Value.int IntKind.i64 39))) fun v4 =>
 condV v4
 (popO (SemP PG (Instr.build T_api_Config #[])) fun v5 =>
 SemH PG (storeS T_api_Config (Value.pointer (some ⟨r1, 0, none⟩)) v5) h2 fun v6 h7 =>
 popO (SemE PG h7 (Instr.loadAt T_api_Config (Value.pointer (some ⟨r1, 0, none⟩)))) fun v8 =>
 R (Value.tuple #[v8, (Value.string { data := #[] }), (Value.int IntKind.i64 6)]) h7)
 (popO (SemP PG (Instr.index T_string t0 (Value.int IntKind.i64 0))) fun v9 =>
 popO (SemP PG (convert T_uint8 T_int v9)) fun v10 =>
 popO (SemP PG (Instr.index T_string t0 (Value.int IntKind.i64 1))) fun v11 =>
 popO (SemP PG (convert T_uint8 T_int v11)) fun v12 =>
 popO (SemP PG (Instr.index T_string t0 (Value.int IntKind.i64 2))) fun v13 =>
 popO (SemP PG (convert T_uint8 T_int v13)) fun v14 =>
 CallsH PG id_carrackref23_v #[t0, (Value.int IntKind.i64 3), (Value.int IntKind.i64 5)] h2 fun v15 h16 =>
 (popO (SemP PG (convert T_uint64 T_int v15)) fun v17 =>
 CallsH PG id_carrackref23_v #[t0, (Value.int IntKind.i64 5), (Value.int IntKind.i64 7)] h16 fun v18 h19 =>
 (popO (SemP PG (convert T_uint64 T_int v18)) fun v20 =>
 popO (SemP PG (Instr.build T_api_Config #[(2, v10), (3, v12), (4, v14), (0, v17), (1, v20)])) fun v21 =>
 ∀ r22, h19 r22 = none → bindH (PH.set h19 r22 (.cells (zcells PG T_api_Config) T_api_Config)) fun h23 =>
 SemH PG (storeS T_api_Config (Value.pointer (some ⟨r22, 0, none⟩)) v21) h23 fun v24 h25 =>
 (CallsH PG id_carrackref23_v #[t0, (Value.int IntKind.i64 7), (Value.int IntKind.i64 15)] h25 fun v26 h27 =>
 CallsH PG id_carrackref23_v #[t0, (Value.int IntKind.i64 15), (Value.int IntKind.i64 23)] h27 fun v28 h29 =>
 popO (SemP PG (Instr.build T_2_uint64 #[(0, v26), (1, v28)])) fun v30 =>
 popO (SemP PG (Instr.fieldAt T_api_Config (Value.pointer (some ⟨r22, 0, none⟩)) 5)) fun v31 =>
 SemH PG (storeS T_2_uint64 v31 v30) h29 fun v32 h33 =>
 CallsH PG id_carrackref23_v #[t0, (Value.int IntKind.i64 23), (Value.int IntKind.i64 31)] h33 fun v34 h35 =>
 CallsH PG id_carrackref23_v #[t0, (Value.int IntKind.i64 31), (Value.int IntKind.i64 39)] h35 fun v36 h37 =>
 popO (SemP PG (Instr.build T_2_uint64 #[(0, v34), (1, v36)])) fun v38 =>
 popO (SemP PG (Instr.fieldAt T_api_Config (Value.pointer (some ⟨r22, 0, none⟩)) 6)) fun v39 =>
 SemH PG (storeS T_2_uint64 v39 v38) h37 fun v40 h41 =>
 popO (SemE PG h41 (Instr.loadAt T_api_Config (Value.pointer (some ⟨r22, 0, none⟩)))) fun v42 =>
 popO (SemP PG (Instr.sliceAt T_string t0 (some (Value.int IntKind.i64 39)) none none)) fun v43 =>
 SemH PG (storeS T_api_Config (Value.pointer (some ⟨r1, 0, none⟩)) v42) h41 fun v44 h45 =>
 (popO (SemE PG h45 (Instr.loadAt T_api_Config (Value.pointer (some ⟨r1, 0, none⟩)))) fun v46 =>
 R (Value.tuple #[v46, v43, (Value.int IntKind.i64 0)]) h45)))))
def carrackref23_Config.ann : Ann := { b := fun i => match i with | 3 => #[0, 1, 3, 0, 8, 24, 0, 64, 192, 0, 512, 1536, 0, 5632, 13824, 32767, 0, 131071] | 6 => #[0, 0, 2, 1, 15, 31] | _ => #[], ord := fun i => match i with | 3 => [0, 1, 2, 3, 4, 5, 6, 7, 8, 9, 12, 10, 11, 13, 14, 15, 16, 17] | 6 => [0, 1, 2, 3, 4, 5] | _ => [], keep := fun i => match i with  | _ => [] }
theorem carrackref23_Config.eq (t0 : Value) (h0 : PH) (R : Value → PH → Prop) : codeF PG carrackref23_Config.ann 200 (bodyOf Try.f8) (endH PG Try.f8 R) (fun t => (#[t0] : Array Value).getD t undef) h0 = carrackref23_Config t0 h0 R := by kernel_rfl
theorem carrackref23_Config.call {t0 : Value} {h0 : PH} {R : Value → PH → Prop} (H : carrackref23_Config t0 h0 R) : CallsH PG id_carrackref23_Config #[t0] h0 R :=
  callsF_by carrackref23_Config.ann 200 mix Try.func8 (by kernel_rfl) (by kernel_rfl) (by kernel_rfl) (by kernel_rfl) (by simp [Try.ntmps8]) (carrackref23_Config.eq t0 h0 R) H

def carrackref23_v (t0 : Value) (t1 : Value) (t2 : Value) (h0 : PH) (R : Value → PH → Prop) : Prop :=
 popO (SemP PG (Instr.sliceAt T_string t0 (some t1) (some t2) none)) fun v1 =>
 CallsH PG id_carrackref03_Value #[v1] h0 fun v2 h3 =>
 R v2 h3
def carrackref23_v.ann : Ann := { b := fun i => match i with  | _ => #[], ord := fun i => match i with  | _ => [], keep := fun i => match i with  | _ => [] }
theorem carrackref23_v.eq (t0 : Value) (t1 : Value) (t2 : Value) (h0 : PH) (R : Value → PH → Prop) : codeF PG carrackref23_v.ann 200 (bodyOf Try.f26) (endH PG Try.f26 R) (fun t => (#[t0, t1, t2] : Array Value).getD t undef) h0 = carrackref23_v t0 t1 t2 h0 R := by kernel_rfl
theorem carrackref23_v.call {t0 : Value} {t1 : Value} {t2 : Value} {h0 : PH} {R : Value → PH → Prop} (H : carrackref23_v t0 t1 t2 h0 R) : CallsH PG id_carrackref23_v #[t0, t1, t2] h0 R :=
  callsF_by carrackref23_v.ann 200 mix Try.func26 (by kernel_rfl) (by kernel_rfl) (by kernel_rfl) (by kernel_rfl) (by simp [Try.ntmps26]) (carrackref23_v.eq t0 t1 t2 h0 R) H

def carrackref03_Value_b2 (R : Value → PH → Prop) (n1 : List Value → PH → Prop) (t0 : Value) (t3 : Value) (t4 : Value) (h0 : PH) : Prop :=
 popO (SemP PG (Builtin.len_ #[T_string] T_int #[t0])) fun v3 =>
 popO (SemP PG (binOp BinOp.lss T_int t4 v3)) fun v4 =>
 condV v4
 (popO (SemP PG (binOp BinOp.mul T_uint64 t3 (Value.int IntKind.u64 256))) fun v5 =>
 popO (SemP PG (Instr.index T_string t0 t4)) fun v6 =>
 popO (SemP PG (convert T_uint8 T_uint64 v6)) fun v7 =>
 popO (SemP PG (binOp BinOp.add T_uint64 v5 v7)) fun v8 =>
 popO (SemP PG (binOp BinOp.add T_int t4 (Value.int IntKind.i64 1))) fun v9 =>
 n1 [t0, v8, v9] h0)
 (R t3 h0)
def carrackref03_Value (t0 : Value) (h0 : PH) (R : Value → PH → Prop) : Prop :=
 LoopL [0, 3, 4] (fun n1 ρ h => carrackref03_Value_b2 R n1 (ρ 0) (ρ 3) (ρ 4) h) [t0, (Value.int IntKind.u64 0), (Value.int IntKind.i64 0)] h0
def carrackref03_Value.ann : Ann := { b := fun i => match i with  | _ => #[], ord := fun i => match i with  | _ => [], keep := fun i => match i with | 3 => [0, 3, 4] | _ => [] }
theorem carrackref03_Value.eq (t0 : Value) (h0 : PH) (R : Value → PH → Prop) : codeF PG carrackref03_Value.ann 200 (bodyOf Try.f43) (endH PG Try.f43 R) (fun t => (#[t0] : Array Value).getD t undef) h0 = carrackref03_Value t0 h0 R := by kernel_rfl
theorem carrackref03_Value.call {t0 : Value} {h0 : PH} {R : Value → PH → Prop} (H : carrackref03_Value t0 h0 R) : CallsH PG id_carrackref03_Value #[t0] h0 R :=
  callsF_by carrackref03_Value.ann 200 mix Try.func43 (by kernel_rfl) (by kernel_rfl) (by kernel_rfl) (by kernel_rfl) (by simp [Try.ntmps43]) (carrackref03_Value.eq t0 h0 R) H

def carracklaw23_entries_b5 (R : Value → PH → Prop) (n4 : List Value → PH → Prop) (t0 : Value) (t1 : Value) (t5 : Value) (h0 : PH) : Prop :=
 popO (SemP PG (Builtin.len_ #[T_sl_script_Entry] T_int #[t0])) fun v6 =>
 popO (SemP PG (binOp BinOp.lss T_int t5 v6)) fun v7 =>
 condV v7
 (popO (SemP PG (Instr.indexAt T_sl_script_Entry t0 t5)) fun v8 =>
 popO (SemP PG (Instr.fieldAt T_script_Entry v8 0)) fun v9 =>
 popO (SemE PG h0 (Instr.loadAt T_api_Act v9)) fun v10 =>
 popO (SemP PG (Instr.indexAt T_sl_carrackref23_Entry t1 t5)) fun v11 =>
 popO (SemP PG (Instr.fieldAt T_carrackref23_Entry v11 0)) fun v12 =>
 popO (SemE PG h0 (Instr.loadAt T_api_Act v12)) fun v13 =>
 CallsH PG id_carrackref23_Same #[v10, v13] h0 fun v14 h15 =>
 (popO (SemP PG (Op.unary UnOp.not v14)) fun v16 =>
 gopV (yV v16) false (fun k19 => k19 t0 h15) h15 fun v17 h18 =>
 gopV (yV v16) false (fun k22 => k22 t5 h18) h18 fun v20 h21 =>
 gopV (yV v16) false (fun k25 => popO (SemP PG (Instr.indexAt T_sl_script_Entry v17 v20)) fun v26 => k25 v26 h21) h21 fun v23 h24 =>
 gopV (yV v16) false (fun k29 => popO (SemP PG (Instr.fieldAt T_script_Entry v23 1)) fun v30 => k29 v30 h24) h24 fun v27 h28 =>
 gopV (yV v16) false (fun k33 => popO (SemE PG h28 (Instr.loadAt T_api_Errno v27)) fun v34 => k33 v34 h28) h28 fun v31 h32 =>
 gopV (yV v16) false (fun k37 => k37 t1 h32) h32 fun v35 h36 =>
 gopV (yV v16) false (fun k40 => k40 t5 h36) h36 fun v38 h39 =>
 gopV (yV v16) false (fun k43 => popO (SemP PG (Instr.indexAt T_sl_carrackref23_Entry v35 v38)) fun v44 => k43 v44 h39) h39 fun v41 h42 =>
 gopV (yV v16) false (fun k47 => popO (SemP PG (Instr.fieldAt T_carrackref23_Entry v41 1)) fun v48 => k47 v48 h42) h42 fun v45 h46 =>
 gopV (yV v16) false (fun k51 => popO (SemE PG h46 (Instr.loadAt T_int v45)) fun v52 => k51 v52 h46) h46 fun v49 h50 =>
 gopV (yV v16) false (fun k55 => popO (SemE PG h50 (binS BinOp.neq T_int (.tmp 34) (.tmp 39) v31 v49)) fun v56 => k55 v56 h50) h50 fun v53 h54 =>
 popO (pickV v16 (Value.bool true) v53) fun v57 =>
 condV v57
 (R (Value.bool false) h54)
 (popO (SemP PG (binOp BinOp.add T_int t5 (Value.int IntKind.i64 1))) fun v58 =>
 n4 [t0, t1, v58] h54)))
 (R (Value.bool true) h0)
def carracklaw23_entries (t0 : Value) (t1 : Value) (h0 : PH) (R : Value → PH → Prop) : Prop :=
 popO (SemP PG (Builtin.len_ #[T_sl_script_Entry] T_int #[t0])) fun v1 =>
 popO (SemP PG (Builtin.len_ #[T_sl_carrackref23_Entry] T_int #[t1])) fun v2 =>
 popO (SemE PG h0 (binS BinOp.neq T_int (.tmp 7) (.tmp 9) v1 v2)) fun v3 =>
 condV v3
 (R (Value.bool false) h0)
 (LoopL [0, 1, 5] (fun n4 ρ h => carracklaw23_entries_b5 R n4 (ρ 0) (ρ 1) (ρ 5) h) [t0, t1, (Value.int IntKind.i64 0)] h0)
def carracklaw23_entries.ann : Ann := { b := fun i => match i with | 6 => #[0, 0, 3, 7, 15, 0, 0, 96, 224, 480, 1023, 2047, 4095, 8191, 8191, 32767, 65535, 131071, 8191, 8191, 794623, 1843199, 3940351, 8388607, 16777215] | _ => #[], ord := fun i => match i with | 6 => [0, 1, 2, 3, 4, 5, 6, 7, 8, 9, 10, 11, 12, 13, 14, 15, 16, 17, 18, 19, 20, 21, 22, 23, 24] | _ => [], keep := fun i => match i with | 4 => [0, 1, 5] | _ => [] }
theorem carracklaw23_entries.eq (t0 : Value) (t1 : Value) (h0 : PH) (R : Value → PH → Prop) : codeF PG carracklaw23_entries.ann 200 (bodyOf Try.f9) (endH PG Try.f9 R) (fun t => (#[t0, t1] : Array Value).getD t undef) h0 = carracklaw23_entries t0 t1 h0 R := by kernel_rfl
theorem carracklaw23_entries.call {t0 : Value} {t1 : Value} {h0 : PH} {R : Value → PH → Prop} (H : carracklaw23_entries t0 t1 h0 R) : CallsH PG id_carracklaw23_entries #[t0, t1] h0 R :=
  callsF_by carracklaw23_entries.ann 200 mix Try.func9 (by kernel_rfl) (by kernel_rfl) (by kernel_rfl) (by kernel_rfl) (by simp [Try.ntmps9]) (carracklaw23_entries.eq t0 t1 h0 R) H

def carrackref23_Same_b13 (R : Value → PH → Prop) (n12 : List Value → PH → Prop) (t2 : Value) (t3 : Value) (t5 : Value) (h0 : PH) : Prop :=
 popO (SemP PG (Instr.fieldAt T_api_Act t2 6)) fun v14 =>
 popO (SemE PG h0 (Instr.loadAt T_sl_api_Write v14)) fun v15 =>
 popO (SemP PG (Builtin.len_ #[T_sl_api_Write] T_int #[v15])) fun v16 =>
 popO (SemP PG (binOp BinOp.lss T_int t5 v16)) fun v17 =>
 condV v17
 (popO (SemP PG (Instr.fieldAt T_api_Act t2 6)) fun v18 =>
 popO (SemE PG h0 (Instr.loadAt T_sl_api_Write v18)) fun v19 =>
 popO (SemP PG (Instr.indexAt T_sl_api_Write v19 t5)) fun v20 =>
 popO (SemE PG h0 (Instr.loadAt T_api_Write v20)) fun v21 =>
 popO (SemP PG (Instr.fieldAt T_api_Act t3 6)) fun v22 =>
 popO (SemE PG h0 (Instr.loadAt T_sl_api_Write v22)) fun v23 =>
 popO (SemP PG (Instr.indexAt T_sl_api_Write v23 t5)) fun v24 =>
 popO (SemE PG h0 (Instr.loadAt T_api_Write v24)) fun v25 =>
 popO (SemE PG h0 (binS BinOp.neq T_api_Write (.tmp 24) (.tmp 29) v21 v25)) fun v26 =>
 condV v26
 (R (Value.bool false) h0)
 (popO (SemP PG (binOp BinOp.add T_int t5 (Value.int IntKind.i64 1))) fun v27 =>
 n12 [t2, t3, v27] h0))
 (popO (SemP PG (Instr.fieldAt T_api_Act t2 0)) fun v28 =>
 popO (SemE PG h0 (Instr.loadAt T_int v28)) fun v29 =>
 popO (SemP PG (Instr.fieldAt T_api_Act t3 0)) fun v30 =>
 popO (SemE PG h0 (Instr.loadAt T_int v30)) fun v31 =>
 popO (SemE PG h0 (binS BinOp.eql T_int (.tmp 32) (.tmp 34) v29 v31)) fun v32 =>
 gopV (yV v32) true (fun k35 => popO (SemP PG (Instr.fieldAt T_api_Act t2 1)) fun v36 => k35 v36 h0) h0 fun v33 h34 =>
 gopV (yV v32) true (fun k39 => popO (SemE PG h34 (Instr.loadAt T_int v33)) fun v40 => k39 v40 h34) h34 fun v37 h38 =>
 gopV (yV v32) true (fun k43 => popO (SemP PG (Instr.fieldAt T_api_Act t3 1)) fun v44 => k43 v44 h38) h38 fun v41 h42 =>
 gopV (yV v32) true (fun k47 => popO (SemE PG h42 (Instr.loadAt T_int v41)) fun v48 => k47 v48 h42) h42 fun v45 h46 =>
 gopV (yV v32) true (fun k51 => popO (SemE PG h46 (binS BinOp.eql T_int (.tmp 38) (.tmp 40) v37 v45)) fun v52 => k51 v52 h46) h46 fun v49 h50 =>
 popO (pickV v32 v49 (Value.bool false)) fun v53 =>
 gopV (yV v53) true (fun k56 => popO (SemP PG (Instr.fieldAt T_api_Act t2 2)) fun v57 => k56 v57 h50) h50 fun v54 h55 =>
 gopV (yV v53) true (fun k60 => popO (SemE PG h55 (Instr.loadAt T_uint64 v54)) fun v61 => k60 v61 h55) h55 fun v58 h59 =>
 gopV (yV v53) true (fun k64 => popO (SemP PG (Instr.fieldAt T_api_Act t3 2)) fun v65 => k64 v65 h59) h59 fun v62 h63 =>
 gopV (yV v53) true (fun k68 => popO (SemE PG h63 (Instr.loadAt T_uint64 v62)) fun v69 => k68 v69 h63) h63 fun v66 h67 =>
 gopV (yV v53) true (fun k72 => popO (SemE PG h67 (binS BinOp.eql T_uint64 (.tmp 45) (.tmp 47) v58 v66)) fun v73 => k72 v73 h67) h67 fun v70 h71 =>
 popO (pickV v53 v70 (Value.bool false)) fun v74 =>
 gopV (yV v74) true (fun k77 => popO (SemP PG (Instr.fieldAt T_api_Act t2 3)) fun v78 => k77 v78 h71) h71 fun v75 h76 =>
 gopV (yV v74) true (fun k81 => popO (SemE PG h76 (Instr.loadAt T_string v75)) fun v82 => k81 v82 h76) h76 fun v79 h80 =>
 gopV (yV v74) true (fun k85 => popO (SemP PG (Instr.fieldAt T_api_Act t3 3)) fun v86 => k85 v86 h80) h80 fun v83 h84 =>
 gopV (yV v74) true (fun k89 => popO (SemE PG h84 (Instr.loadAt T_string v83)) fun v90 => k89 v90 h84) h84 fun v87 h88 =>
 gopV (yV v74) true (fun k93 => popO (SemE PG h88 (binS BinOp.eql T_string (.tmp 52) (.tmp 54) v79 v87)) fun v94 => k93 v94 h88) h88 fun v91 h92 =>
 popO (pickV v74 v91 (Value.bool false)) fun v95 =>
 gopV (yV v95) true (fun k98 => popO (SemP PG (Instr.fieldAt T_api_Act t2 4)) fun v99 => k98 v99 h92) h92 fun v96 h97 =>
 gopV (yV v95) true (fun k102 => popO (SemE PG h97 (Instr.loadAt T_int v96)) fun v103 => k102 v103 h97) h97 fun v100 h101 =>
 gopV (yV v95) true (fun k106 => popO (SemP PG (Instr.fieldAt T_api_Act t3 4)) fun v107 => k106 v107 h101) h101 fun v104 h105 =>
 gopV (yV v95) true (fun k110 => popO (SemE PG h105 (Instr.loadAt T_int v104)) fun v111 => k110 v111 h105) h105 fun v108 h109 =>
 gopV (yV v95) true (fun k114 => popO (SemE PG h109 (binS BinOp.eql T_int (.tmp 59) (.tmp 61) v100 v108)) fun v115 => k114 v115 h109) h109 fun v112 h113 =>
 popO (pickV v95 v112 (Value.bool false)) fun v116 =>
 gopV (yV v116) true (fun k119 => popO (SemP PG (Instr.fieldAt T_api_Act t2 5)) fun v120 => k119 v120 h113) h113 fun v117 h118 =>
 gopV (yV v116) true (fun k123 => popO (SemE PG h118 (Instr.loadAt T_api_Message v117)) fun v124 => k123 v124 h118) h118 fun v121 h122 =>
 gopV (yV v116) true (fun k127 => popO (SemP PG (Instr.fieldAt T_api_Act t3 5)) fun v128 => k127 v128 h122) h122 fun v125 h126 =>
 gopV (yV v116) true (fun k131 => popO (SemE PG h126 (Instr.loadAt T_api_Message v125)) fun v132 => k131 v132 h126) h126 fun v129 h130 =>
 gopV (yV v116) true (fun k135 => popO (SemE PG h130 (binS BinOp.eql T_api_Message (.tmp 66) (.tmp 68) v121 v129)) fun v136 => k135 v136 h130) h130 fun v133 h134 =>
 popO (pickV v116 v133 (Value.bool false)) fun v137 =>
 R v137 h134)
def carrackref23_Same (t0 : Value) (t1 : Value) (h0 : PH) (R : Value → PH → Prop) : Prop :=
 ∀ r1, h0 r1 = none → bindH (PH.set h0 r1 (.cells (Value.cells t0) T_api_Act)) fun h2 =>
 ∀ r3, h2 r3 = none → bindH (PH.set h2 r3 (.cells (Value.cells t1) T_api_Act)) fun h4 =>
 popO (SemP PG (Instr.fieldAt T_api_Act (Value.pointer (some ⟨r1, 0, none⟩)) 6)) fun v5 =>
 popO (SemE PG h4 (Instr.loadAt T_sl_api_Write v5)) fun v6 =>
 popO (SemP PG (Builtin.len_ #[T_sl_api_Write] T_int #[v6])) fun v7 =>
 popO (SemP PG (Instr.fieldAt T_api_Act (Value.pointer (some ⟨r3, 0, none⟩)) 6)) fun v8 =>
 popO (SemE PG h4 (Instr.loadAt T_sl_api_Write v8)) fun v9 =>
 popO (SemP PG (Builtin.len_ #[T_sl_api_Write] T_int #[v9])) fun v10 =>
 popO (SemE PG h4 (binS BinOp.neq T_int (.tmp 8) (.tmp 11) v7 v10)) fun v11 =>
 condV v11
 (R (Value.bool false) h4)
 (LoopL [2, 3, 5] (fun n12 ρ h => carrackref23_Same_b13 R n12 (ρ 2) (ρ 3) (ρ 5) h) [(Value.pointer (some ⟨r1, 0, none⟩)), (Value.pointer (some ⟨r3, 0, none⟩)), (Value.int IntKind.i64 0)] h4)
def carrackref23_Same.ann : Ann := { b := fun i => match i with | 6 => #[0, 1, 0, 7, 15, 0, 32, 0, 224, 480, 1023] | _ => #[], ord := fun i => match i with | 6 => [0, 1, 2, 3, 4, 5, 6, 7, 8, 9, 10] | _ => [], keep := fun i => match i with | 4 => [2, 3, 5] | _ => [] }
theorem carrackref23_Same.eq (t0 : Value) (t1 : Value) (h0 : PH) (R : Value → PH → Prop) : codeF PG carrackref23_Same.ann 200 (bodyOf Try.f27) (endH PG Try.f27 R) (fun t => (#[t0, t1] : Array Value).getD t undef) h0 = carrackref23_Same t0 t1 h0 R := by kernel_rfl
theorem carrackref23_Same.call {t0 : Value} {t1 : Value} {h0 : PH} {R : Value → PH → Prop} (H : carrackref23_Same t0 t1 h0 R) : CallsH PG id_carrackref23_Same #[t0, t1] h0 R :=
  callsF_by carrackref23_Same.ann 200 mix Try.func27 (by kernel_rfl) (by kernel_rfl) (by kernel_rfl) (by kernel_rfl) (by simp [Try.ntmps27]) (carrackref23_Same.eq t0 t1 h0 R) H

def carrackref23_Entries_k15 (R : Value → PH → Prop) (n1 : List Value → PH → Prop) (t0 : Value) (t3 : Value) (h0 : PH) : Prop :=
 n1 [t0, t3] h0
def carrackref23_Entries_b2 (R : Value → PH → Prop) (n1 : List Value → PH → Prop) (t0 : Value) (t3 : Value) (h0 : PH) : Prop :=
 popO (SemP PG (Builtin.len_ #[T_string] T_int #[t0])) fun v3 =>
 popO (SemP PG (binOp BinOp.gtr T_int v3 (Value.int IntKind.i64 0))) fun v4 =>
 condV v4
 (popO (SemP PG (Instr.index T_string t0 (Value.int IntKind.i64 0))) fun v5 =>
 popO (SemP PG (binOp BinOp.gtr T_uint8 v5 (Value.int IntKind.u8 8))) fun v6 =>
 condV v6
 (popO (SemP PG (Instr.build T_carrackref23_Entry #[(1, (Value.int IntKind.i64 5))])) fun v7 =>
 popO (SemA PG (Instr.buildSlice T_sl_carrackref23_Entry 1 #[(0, v7)])) fun x9 => ∀ r8, h0 r8 = none → popO (SemP PG (x9.2 r8)) fun v10 => bindH (PH.set h0 r8 x9.1) fun h11 =>
 SemH PG (Builtin.append_ #[T_sl_carrackref23_Entry, T_sl_carrackref23_Entry] T_sl_carrackref23_Entry #[t3, v10]) h11 fun v12 h13 =>
 popO (SemP PG (Instr.sliceAt T_string t0 (some (Value.int IntKind.i64 1)) none none)) fun v14 =>
 carrackref23_Entries_k15 R n1 v14 v12 h13)
 (popO (SemP PG (Instr.sliceAt T_string t0 (some (Value.int IntKind.i64 1)) none none)) fun v16 =>
 popO (SemP PG (Instr.build T_carrackref03_Reader #[(0, v16)])) fun v17 =>
 ∀ r18, h0 r18 = none → bindH (PH.set h0 r18 (.cells (Value.cells v17) T_carrackref03_Reader)) fun h19 =>
 popO (SemP PG (Instr.build T_carrackref23_reader #[(0, (Value.pointer (some ⟨r18, 0, none⟩)))])) fun v20 =>
 popO (SemP PG (Instr.index T_string t0 (Value.int IntKind.i64 0))) fun v21 =>
 popO (SemP PG (convert T_uint8 T_int v21)) fun v22 =>
 CallsH PG id_carrackref23_reader_act #[v20, v22] h19 fun v23 h24 =>
 ∀ r25, h24 r25 = none → bindH (PH.set h24 r25 (.cells (zcells PG T_api_Act) T_api_Act)) fun h26 =>
 SemH PG (storeS T_api_Act (Value.pointer (some ⟨r25, 0, none⟩)) v23) h26 fun v27 h28 =>
 popO (SemP PG (nilS (Value.pointer (some ⟨r18, 0, none⟩)))) fun v29 =>
 popO (SemP PG (Instr.fieldAt T_carrackref03_Reader v29 2)) fun v30 =>
 popO (SemE PG h28 (Instr.loadAt T_int v30)) fun v31 =>
 popO (SemE PG h28 (binS BinOp.neq T_int (.tmp 31) (.const (Value.int IntKind.i64 0)) v31 (Value.int IntKind.i64 0))) fun v32 =>
 condV v32
 (popO (SemP PG (Instr.build T_carrackref23_Entry #[(1, (Value.int IntKind.i64 6))])) fun v33 =>
 popO (SemA PG (Instr.buildSlice T_sl_carrackref23_Entry 1 #[(0, v33)])) fun x35 => ∀ r34, h28 r34 = none → popO (SemP PG (x35.2 r34)) fun v36 => bindH (PH.set h28 r34 x35.1) fun h37 =>
 SemH PG (Builtin.append_ #[T_sl_carrackref23_Entry, T_sl_carrackref23_Entry] T_sl_carrackref23_Entry #[t3, v36]) h37 fun v38 h39 =>
 R v38 h39)
 (popO (SemE PG h28 (Instr.loadAt T_api_Act (Value.pointer (some ⟨r25, 0, none⟩)))) fun v40 =>
 popO (SemP PG (Instr.build T_carrackref23_Entry #[(0, v40)])) fun v41 =>
 popO (SemA PG (Instr.buildSlice T_sl_carrackref23_Entry 1 #[(0, v41)])) fun x43 => ∀ r42, h28 r42 = none → popO (SemP PG (x43.2 r42)) fun v44 => bindH (PH.set h28 r42 x43.1) fun h45 =>
 SemH PG (Builtin.append_ #[T_sl_carrackref23_Entry, T_sl_carrackref23_Entry] T_sl_carrackref23_Entry #[t3, v44]) h45 fun v46 h47 =>
 popO (SemP PG (nilS (Value.pointer (some ⟨r18, 0, none⟩)))) fun v48 =>
 popO (SemP PG (Instr.fieldAt T_carrackref03_Reader v48 1)) fun v49 =>
 popO (SemE PG h47 (Instr.loadAt T_int v49)) fun v50 =>
 popO (SemP PG (binOp BinOp.add T_int (Value.int IntKind.i64 1) v50)) fun v51 =>
 popO (SemP PG (Instr.sliceAt T_string t0 (some v51) none none)) fun v52 =>
 carrackref23_Entries_k15 R n1 v52 v46 h47)))
 (R t3 h0)
def carrackref23_Entries (t0 : Value) (h0 : PH) (R : Value → PH → Prop) : Prop :=
 LoopL [0, 3] (fun n1 ρ h => carrackref23_Entries_b2 R n1 (ρ 0) (ρ 3) h) [t0, (Value.slice none 0 0)] h0
def carrackref23_Entries.ann : Ann := { b := fun i => match i with  | _ => #[], ord := fun i => match i with  | _ => [], keep := fun i => match i with | 2 => [0, 3] | _ => [] }
theorem carrackref23_Entries.eq (t0 : Value) (h0 : PH) (R : Value → PH → Prop) : codeF PG carrackref23_Entries.ann 200 (bodyOf Try.f11) (endH PG Try.f11 R) (fun t => (#[t0] : Array Value).getD t undef) h0 = carrackref23_Entries t0 h0 R := by kernel_rfl
theorem carrackref23_Entries.call {t0 : Value} {h0 : PH} {R : Value → PH → Prop} (H : carrackref23_Entries t0 h0 R) : CallsH PG id_carrackref23_Entries #[t0] h0 R :=
  callsF_by carrackref23_Entries.ann 200 mix Try.func11 (by kernel_rfl) (by kernel_rfl) (by kernel_rfl) (by kernel_rfl) (by simp [Try.ntmps11]) (carrackref23_Entries.eq t0 h0 R) H

def carrackref23_reader_act_k30 (R : Value → PH → Prop) (t4 : Value) (t5 : Value) (h0 : PH) : Prop :=
 popO (SemE PG h0 (Instr.loadAt T_api_Act t5)) fun v31 =>
 SemH PG (storeS T_api_Act t4 v31) h0 fun v32 h33 =>
 popO (SemE PG h33 (Instr.loadAt T_api_Act t4)) fun v34 =>
 R v34 h33
def carrackref23_reader_act_k29 (R : Value → PH → Prop) (t4 : Value) (t5 : Value) (h0 : PH) : Prop :=
 carrackref23_reader_act_k30 R t4 t5 h0
def carrackref23_reader_act_b116 (R : Value → PH → Prop) (n115 : List Value → PH → Prop) (t2 : Value) (t4 : Value) (t5 : Value) (t6 : Value) (t7 : Value) (h0 : PH) : Prop :=
 popO (SemP PG (binOp BinOp.lss T_int t7 t6)) fun v117 =>
 condV v117
 (popO (SemE PG h0 (Instr.loadAt T_carrackref23_reader t2)) fun v118 =>
 CallsH PG id_carrackref23_reader_one #[v118] h0 fun v119 h120 =>
 popO (SemE PG h120 (binS BinOp.neq T_int (.tmp 84) (.const (Value.int IntKind.i64 0)) v119 (Value.int IntKind.i64 0))) fun v121 =>
 popO (SemP PG (Instr.build T_api_Write #[(0, v121)])) fun v122 =>
 ∀ r123, h120 r123 = none → bindH (PH.set h120 r123 (.cells (zcells PG T_api_Write) T_api_Write)) fun h124 =>
 SemH PG (storeS T_api_Write (Value.pointer (some ⟨r123, 0, none⟩)) v122) h124 fun v125 h126 =>
 popO (SemE PG h126 (Instr.loadAt T_carrackref23_reader t2)) fun v127 =>
 CallsH PG id_carrackref23_reader_two #[v127] h126 fun v128 h129 =>
 popO (SemP PG (Instr.fieldAt T_api_Write (Value.pointer (some ⟨r123, 0, none⟩)) 1)) fun v130 =>
 SemH PG (storeS T_int v130 v128) h129 fun v131 h132 =>
 popO (SemP PG (Instr.fieldAt T_api_Act t5 6)) fun v133 =>
 popO (SemE PG h132 (Instr.loadAt T_sl_api_Write v133)) fun v134 =>
 popO (SemE PG h132 (Instr.loadAt T_api_Write (Value.pointer (some ⟨r123, 0, none⟩)))) fun v135 =>
 popO (SemA PG (Instr.buildSlice T_sl_api_Write 1 #[(0, v135)])) fun x137 => ∀ r136, h132 r136 = none → popO (SemP PG (x137.2 r136)) fun v138 => bindH (PH.set h132 r136 x137.1) fun h139 =>
 SemH PG (Builtin.append_ #[T_sl_api_Write, T_sl_api_Write] T_sl_api_Write #[v134, v138]) h139 fun v140 h141 =>
 popO (SemP PG (Instr.fieldAt T_api_Act t5 6)) fun v142 =>
 SemH PG (storeS T_sl_api_Write v142 v140) h141 fun v143 h144 =>
 popO (SemP PG (binOp BinOp.add T_int t7 (Value.int IntKind.i64 1))) fun v145 =>
 n115 [t2, t4, t5, t6, v145] h144)
 (carrackref23_reader_act_k29 R t4 t5 h0)
def carrackref23_reader_act_k43 (R : Value → PH → Prop) (t2 : Value) (t4 : Value) (t5 : Value) (t11 : Value) (t28 : Value) (h0 : PH) : Prop :=
 condV t28
 (popO (SemE PG h0 (Instr.loadAt T_carrackref23_reader t2)) fun v44 =>
 CallsH PG id_carrackref23_reader_one #[v44] h0 fun v45 h46 =>
 popO (SemP PG (Instr.fieldAt T_api_Act t5 4)) fun v47 =>
 SemH PG (storeS T_int v47 v45) h46 fun v48 h49 =>
 carrackref23_reader_act_k29 R t4 t5 h49)
 (popO (SemE PG h0 (binS BinOp.eql T_int (.tmp 11) (.const (Value.int IntKind.i64 6)) t11 (Value.int IntKind.i64 6))) fun v50 =>
 condV v50
 (popO (SemE PG h0 (Instr.loadAt T_carrackref23_reader t2)) fun v51 =>
 CallsH PG id_carrackref23_reader_one #[v51] h0 fun v52 h53 =>
 popO (SemP PG (Instr.fieldAt T_api_Act t5 5)) fun v54 =>
 popO (SemP PG (Instr.fieldAt T_api_Message v54 0)) fun v55 =>
 SemH PG (storeS T_int v55 v52) h53 fun v56 h57 =>
 popO (SemE PG h57 (Instr.loadAt T_carrackref23_reader t2)) fun v58 =>
 CallsH PG id_carrackref23_reader_one #[v58] h57 fun v59 h60 =>
 popO (SemP PG (Instr.fieldAt T_api_Act t5 5)) fun v61 =>
 popO (SemP PG (Instr.fieldAt T_api_Message v61 1)) fun v62 =>
 SemH PG (storeS T_int v62 v59) h60 fun v63 h64 =>
 popO (SemE PG h64 (Instr.loadAt T_carrackref23_reader t2)) fun v65 =>
 CallsH PG id_carrackref23_reader_number #[v65] h64 fun v66 h67 =>
 popO (SemP PG (Instr.fieldAt T_api_Act t5 5)) fun v68 =>
 popO (SemP PG (Instr.fieldAt T_api_Message v68 2)) fun v69 =>
 SemH PG (storeS T_uint64 v69 v66) h67 fun v70 h71 =>
 popO (SemE PG h71 (Instr.loadAt T_carrackref23_reader t2)) fun v72 =>
 CallsH PG id_carrackref23_reader_one #[v72] h71 fun v73 h74 =>
 popO (SemP PG (Instr.fieldAt T_api_Act t5 5)) fun v75 =>
 popO (SemP PG (Instr.fieldAt T_api_Message v75 3)) fun v76 =>
 popO (SemP PG (Instr.fieldAt T_api_Packet v76 0)) fun v77 =>
 SemH PG (storeS T_int v77 v73) h74 fun v78 h79 =>
 popO (SemE PG h79 (Instr.loadAt T_carrackref23_reader t2)) fun v80 =>
 CallsH PG id_carrackref23_reader_number #[v80] h79 fun v81 h82 =>
 popO (SemP PG (Instr.fieldAt T_api_Act t5 5)) fun v83 =>
 popO (SemP PG (Instr.fieldAt T_api_Message v83 3)) fun v84 =>
 popO (SemP PG (Instr.fieldAt T_api_Packet v84 1)) fun v85 =>
 SemH PG (storeS T_uint64 v85 v81) h82 fun v86 h87 =>
 popO (SemE PG h87 (Instr.loadAt T_carrackref23_reader t2)) fun v88 =>
 CallsH PG id_carrackref23_reader_number #[v88] h87 fun v89 h90 =>
 popO (SemP PG (Instr.fieldAt T_api_Act t5 5)) fun v91 =>
 popO (SemP PG (Instr.fieldAt T_api_Message v91 3)) fun v92 =>
 popO (SemP PG (Instr.fieldAt T_api_Packet v92 2)) fun v93 =>
 SemH PG (storeS T_uint64 v93 v89) h90 fun v94 h95 =>
 popO (SemE PG h95 (Instr.loadAt T_carrackref23_reader t2)) fun v96 =>
 CallsH PG id_carrackref23_reader_text #[v96] h95 fun v97 h98 =>
 popO (SemP PG (Instr.fieldAt T_api_Act t5 5)) fun v99 =>
 popO (SemP PG (Instr.fieldAt T_api_Message v99 3)) fun v100 =>
 popO (SemP PG (Instr.fieldAt T_api_Packet v100 3)) fun v101 =>
 SemH PG (storeS T_string v101 v97) h98 fun v102 h103 =>
 popO (SemE PG h103 (Instr.loadAt T_carrackref23_reader t2)) fun v104 =>
 CallsH PG id_carrackref23_reader_text #[v104] h103 fun v105 h106 =>
 popO (SemP PG (Instr.fieldAt T_api_Act t5 5)) fun v107 =>
 popO (SemP PG (Instr.fieldAt T_api_Message v107 4)) fun v108 =>
 SemH PG (storeS T_string v108 v105) h106 fun v109 h110 =>
 carrackref23_reader_act_k29 R t4 t5 h110)
 (popO (SemE PG h0 (binS BinOp.eql T_int (.tmp 11) (.const (Value.int IntKind.i64 8)) t11 (Value.int IntKind.i64 8))) fun v111 =>
 condV v111
 (popO (SemE PG h0 (Instr.loadAt T_carrackref23_reader t2)) fun v112 =>
 CallsH PG id_carrackref23_reader_one #[v112] h0 fun v113 h114 =>
 LoopL [2, 4, 5, 6, 7] (fun n115 ρ h => carrackref23_reader_act_b116 R n115 (ρ 2) (ρ 4) (ρ 5) (ρ 6) (ρ 7) h) [t2, t4, t5, v113, (Value.int IntKind.i64 0)] h114)
 (carrackref23_reader_act_k29 R t4 t5 h0)))
def carrackref23_reader_act (t0 : Value) (t1 : Value) (h0 : PH) (R : Value → PH → Prop) : Prop :=
 ∀ r1, h0 r1 = none → bindH (PH.set h0 r1 (.cells (Value.cells t0) T_carrackref23_reader)) fun h2 =>
 ∀ r3, h2 r3 = none → bindH (PH.set h2 r3 (.cells (zcells PG T_api_Act) T_api_Act)) fun h4 =>
 popO (SemP PG (Instr.build T_api_Act #[(0, t1)])) fun v5 =>
 ∀ r6, h4 r6 = none → bindH (PH.set h4 r6 (.cells (zcells PG T_api_Act) T_api_Act)) fun h7 =>
 SemH PG (storeS T_api_Act (Value.pointer (some ⟨r6, 0, none⟩)) v5) h7 fun v8 h9 =>
 popO (SemE PG h9 (binS BinOp.eql T_int (.tmp 11) (.const (Value.int IntKind.i64 0)) t1 (Value.int IntKind.i64 0))) fun v10 =>
 condV v10
 (popO (SemE PG h9 (Instr.loadAt T_carrackref23_reader (Value.pointer (some ⟨r1, 0, none⟩)))) fun v11 =>
 CallsH PG id_carrackref23_reader_one #[v11] h9 fun v12 h13 =>
 popO (SemP PG (Instr.fieldAt T_api_Act (Value.pointer (some ⟨r6, 0, none⟩)) 1)) fun v14 =>
 SemH PG (storeS T_int v14 v12) h13 fun v15 h16 =>
 popO (SemE PG h16 (Instr.loadAt T_carrackref23_reader (Value.pointer (some ⟨r1, 0, none⟩)))) fun v17 =>
 CallsH PG id_carrackref23_reader_number #[v17] h16 fun v18 h19 =>
 popO (SemP PG (Instr.fieldAt T_api_Act (Value.pointer (some ⟨r6, 0, none⟩)) 2)) fun v20 =>
 SemH PG (storeS T_uint64 v20 v18) h19 fun v21 h22 =>
 popO (SemE PG h22 (Instr.loadAt T_carrackref23_reader (Value.pointer (some ⟨r1, 0, none⟩)))) fun v23 =>
 CallsH PG id_carrackref23_reader_text #[v23] h22 fun v24 h25 =>
 popO (SemP PG (Instr.fieldAt T_api_Act (Value.pointer (some ⟨r6, 0, none⟩)) 3)) fun v26 =>
 SemH PG (storeS T_string v26 v24) h25 fun v27 h28 =>
 carrackref23_reader_act_k29 R (Value.pointer (some ⟨r3, 0, none⟩)) (Value.pointer (some ⟨r6, 0, none⟩)) h28)
 (popO (SemE PG h9 (binS BinOp.eql T_int (.tmp 11) (.const (Value.int IntKind.i64 1)) t1 (Value.int IntKind.i64 1))) fun v35 =>
 condV v35
 (popO (SemE PG h9 (Instr.loadAt T_carrackref23_reader (Value.pointer (some ⟨r1, 0, none⟩)))) fun v36 =>
 CallsH PG id_carrackref23_reader_one #[v36] h9 fun v37 h38 =>
 popO (SemP PG (Instr.fieldAt T_api_Act (Value.pointer (some ⟨r6, 0, none⟩)) 1)) fun v39 =>
 SemH PG (storeS T_int v39 v37) h38 fun v40 h41 =>
 carrackref23_reader_act_k29 R (Value.pointer (some ⟨r3, 0, none⟩)) (Value.pointer (some ⟨r6, 0, none⟩)) h41)
 (popO (SemE PG h9 (binS BinOp.eql T_int (.tmp 11) (.const (Value.int IntKind.i64 3)) t1 (Value.int IntKind.i64 3))) fun v42 =>
 condV v42
 (carrackref23_reader_act_k43 R (Value.pointer (some ⟨r1, 0, none⟩)) (Value.pointer (some ⟨r3, 0, none⟩)) (Value.pointer (some ⟨r6, 0, none⟩)) t1 v42 h9)
 (popO (SemE PG h9 (binS BinOp.eql T_int (.tmp 11) (.const (Value.int IntKind.i64 4)) t1 (Value.int IntKind.i64 4))) fun v146 =>
 condV v146
 (carrackref23_reader_act_k43 R (Value.pointer (some ⟨r1, 0, none⟩)) (Value.pointer (some ⟨r3, 0, none⟩)) (Value.pointer (some ⟨r6, 0, none⟩)) t1 v146 h9)
 (popO (SemE PG h9 (binS BinOp.eql T_int (.tmp 11) (.const (Value.int IntKind.i64 5)) t1 (Value.int IntKind.i64 5))) fun v147 =>
 condV v147
 (carrackref23_reader_act_k43 R (Value.pointer (some ⟨r1, 0, none⟩)) (Value.pointer (some ⟨r3, 0, none⟩)) (Value.pointer (some ⟨r6, 0, none⟩)) t1 v147 h9)
 (popO (SemE PG h9 (binS BinOp.eql T_int (.tmp 11) (.const (Value.int IntKind.i64 7)) t1 (Value.int IntKind.i64 7))) fun v148 =>
 carrackref23_reader_act_k43 R (Value.pointer (some ⟨r1, 0, none⟩)) (Value.pointer (some ⟨r3, 0, none⟩)) (Value.pointer (some ⟨r6, 0, none⟩)) t1 v148 h9)))))
def carrackref23_reader_act.ann : Ann := { b := fun i => match i with  | _ => #[], ord := fun i => match i with  | _ => [], keep := fun i => match i with | 26 => [2, 4, 5, 6, 7] | _ => [] }
theorem carrackref23_reader_act.eq (t0 : Value) (t1 : Value) (h0 : PH) (R : Value → PH → Prop) : codeF PG carrackref23_reader_act.ann 200 (bodyOf Try.f29) (endH PG Try.f29 R) (fun t => (#[t0, t1] : Array Value).getD t undef) h0 = carrackref23_reader_act t0 t1 h0 R := by kernel_rfl
theorem carrackref23_reader_act.call {t0 : Value} {t1 : Value} {h0 : PH} {R : Value → PH → Prop} (H : carrackref23_reader_act t0 t1 h0 R) : CallsH PG id_carrackref23_reader_act #[t0, t1] h0 R :=
  callsF_by carrackref23_reader_act.ann 200 mix Try.func29 (by kernel_rfl) (by kernel_rfl) (by kernel_rfl) (by kernel_rfl) (by simp [Try.ntmps29]) (carrackref23_reader_act.eq t0 t1 h0 R) H

def carrackref23_reader_one (t0 : Value) (h0 : PH) (R : Value → PH → Prop) : Prop :=
 ∀ r1, h0 r1 = none → bindH (PH.set h0 r1 (.cells (Value.cells t0) T_carrackref23_reader)) fun h2 =>
 popO (SemP PG (Instr.fieldAt T_carrackref23_reader (Value.pointer (some ⟨r1, 0, none⟩)) 0)) fun v3 =>
 popO (SemE PG h2 (Instr.loadAt T_p_carrackref03_Reader v3)) fun v4 =>
 popO (SemP PG (Instr.build T_carrackref03_Call #[(0, (Value.int IntKind.i64 0))])) fun v5 =>
 CallsH PG id_carrackref03_Reader_Do #[v4, v5] h2 fun v6 h7 =>
 popO (SemP PG (Instr.extract v6 0)) fun v8 =>
 popO (SemP PG (Instr.extract v6 1)) fun v9 =>
 popO (SemP PG (convert T_uint64 T_int v8)) fun v10 =>
 R v10 h7
def carrackref23_reader_one.ann : Ann := { b := fun i => match i with  | _ => #[], ord := fun i => match i with  | _ => [], keep := fun i => match i with  | _ => [] }
theorem carrackref23_reader_one.eq (t0 : Value) (h0 : PH) (R : Value → PH → Prop) : codeF PG carrackref23_reader_one.ann 200 (bodyOf Try.f52) (endH PG Try.f52 R) (fun t => (#[t0] : Array Value).getD t undef) h0 = carrackref23_reader_one t0 h0 R := by kernel_rfl
theorem carrackref23_reader_one.call {t0 : Value} {h0 : PH} {R : Value → PH → Prop} (H : carrackref23_reader_one t0 h0 R) : CallsH PG id_carrackref23_reader_one #[t0] h0 R :=
  callsF_by carrackref23_reader_one.ann 200 mix Try.func52 (by kernel_rfl) (by kernel_rfl) (by kernel_rfl) (by kernel_rfl) (by simp [Try.ntmps52]) (carrackref23_reader_one.eq t0 h0 R) H

def carrackref03_Reader_Do_k49 (R : Value → PH → Prop) (h0 : PH) : Prop :=
 R (Value.tuple #[(Value.int IntKind.u64 0), (Value.string { data := #[] })]) h0
def carrackref03_Reader_Do (t0 : Value) (t1 : Value) (h0 : PH) (R : Value → PH → Prop) : Prop :=
 ∀ r1, h0 r1 = none → bindH (PH.set h0 r1 (.cells (Value.cells t1) T_carrackref03_Call)) fun h2 =>
 popO (SemP PG (Instr.fieldAt T_carrackref03_Call (Value.pointer (some ⟨r1, 0, none⟩)) 0)) fun v3 =>
 popO (SemE PG h2 (Instr.loadAt T_int v3)) fun v4 =>
 popO (SemE PG h2 (binS BinOp.eql T_int (.tmp 17) (.const (Value.int IntKind.i64 0)) v4 (Value.int IntKind.i64 0))) fun v5 =>
 condV v5
 (CallsH PG id_carrackref03_Reader_take #[t0, (Value.int IntKind.i64 1)] h2 fun v6 h7 =>
 popO (SemP PG (Instr.extract v6 0)) fun v8 =>
 popO (SemP PG (Instr.extract v6 1)) fun v9 =>
 CallsH PG id_carrackref03_Value #[v8] h7 fun v10 h11 =>
 R (Value.tuple #[v10, (Value.string { data := #[] })]) h11)
 (popO (SemE PG h2 (binS BinOp.eql T_int (.tmp 17) (.const (Value.int IntKind.i64 1)) v4 (Value.int IntKind.i64 1))) fun v12 =>
 condV v12
 (CallsH PG id_carrackref03_Reader_take #[t0, (Value.int IntKind.i64 8)] h2 fun v13 h14 =>
 popO (SemP PG (Instr.extract v13 0)) fun v15 =>
 popO (SemP PG (Instr.extract v13 1)) fun v16 =>
 CallsH PG id_carrackref03_Value #[v15] h14 fun v17 h18 =>
 R (Value.tuple #[v17, (Value.string { data := #[] })]) h18)
 (popO (SemE PG h2 (binS BinOp.eql T_int (.tmp 17) (.const (Value.int IntKind.i64 2)) v4 (Value.int IntKind.i64 2))) fun v19 =>
 condV v19
 (CallsH PG id_carrackref03_Reader_take #[t0, (Value.int IntKind.i64 2)] h2 fun v20 h21 =>
 popO (SemP PG (Instr.extract v20 0)) fun v22 =>
 popO (SemP PG (Instr.extract v20 1)) fun v23 =>
 popO (SemP PG (Op.unary UnOp.not v23)) fun v24 =>
 condV v24
 (R (Value.tuple #[(Value.int IntKind.u64 0), (Value.string { data := #[] })]) h21)
 (CallsH PG id_carrackref03_Value #[v22] h21 fun v25 h26 =>
 popO (SemP PG (convert T_uint64 T_int v25)) fun v27 =>
 CallsH PG id_carrackref03_Reader_take #[t0, v27] h26 fun v28 h29 =>
 popO (SemP PG (Instr.extract v28 0)) fun v30 =>
 popO (SemP PG (Instr.extract v28 1)) fun v31 =>
 R (Value.tuple #[(Value.int IntKind.u64 0), v30]) h29))
 (popO (SemE PG h2 (binS BinOp.eql T_int (.tmp 17) (.const (Value.int IntKind.i64 3)) v4 (Value.int IntKind.i64 3))) fun v32 =>
 condV v32
 (popO (SemP PG (Instr.fieldAt T_carrackref03_Call (Value.pointer (some ⟨r1, 0, none⟩)) 1)) fun v33 =>
 popO (SemE PG h2 (Instr.loadAt T_int v33)) fun v34 =>
 CallsH PG id_carrackref03_Reader_take #[t0, v34] h2 fun v35 h36 =>
 popO (SemP PG (Instr.extract v35 0)) fun v37 =>
 popO (SemP PG (Instr.extract v35 1)) fun v38 =>
 R (Value.tuple #[(Value.int IntKind.u64 0), v37]) h36)
 (popO (SemP PG (nilS t0)) fun v39 =>
 popO (SemP PG (Instr.fieldAt T_carrackref03_Reader v39 2)) fun v40 =>
 popO (SemE PG h2 (Instr.loadAt T_int v40)) fun v41 =>
 popO (SemE PG h2 (binS BinOp.eql T_int (.tmp 67) (.const (Value.int IntKind.i64 0)) v41 (Value.int IntKind.i64 0))) fun v42 =>
 condV v42
 (popO (SemP PG (Instr.fieldAt T_carrackref03_Call (Value.pointer (some ⟨r1, 0, none⟩)) 1)) fun v43 =>
 popO (SemE PG h2 (Instr.loadAt T_int v43)) fun v44 =>
 popO (SemP PG (nilS t0)) fun v45 =>
 popO (SemP PG (Instr.fieldAt T_carrackref03_Reader v45 2)) fun v46 =>
 SemH PG (storeS T_int v46 v44) h2 fun v47 h48 =>
 carrackref03_Reader_Do_k49 R h48)
 (carrackref03_Reader_Do_k49 R h2)))))
def carrackref03_Reader_Do.ann : Ann := { b := fun i => match i with  | _ => #[], ord := fun i => match i with  | _ => [], keep := fun i => match i with  | _ => [] }
theorem carrackref03_Reader_Do.eq (t0 : Value) (t1 : Value) (h0 : PH) (R : Value → PH → Prop) : codeF PG carrackref03_Reader_Do.ann 200 (bodyOf Try.f69) (endH PG Try.f69 R) (fun t => (#[t0, t1] : Array Value).getD t undef) h0 = carrackref03_Reader_Do t0 t1 h0 R := by kernel_rfl
theorem carrackref03_Reader_Do.call {t0 : Value} {t1 : Value} {h0 : PH} {R : Value → PH → Prop} (H : carrackref03_Reader_Do t0 t1 h0 R) : CallsH PG id_carrackref03_Reader_Do #[t0, t1] h0 R :=
  callsF_by carrackref03_Reader_Do.ann 200 mix Try.func69 (by kernel_rfl) (by kernel_rfl) (by kernel_rfl) (by kernel_rfl) (by simp [Try.ntmps69]) (carrackref03_Reader_Do.eq t0 t1 h0 R) H

def carrackref03_Reader_take (t0 : Value) (t1 : Value) (h0 : PH) (R : Value → PH → Prop) : Prop :=
 popO (SemP PG (nilS t0)) fun v1 =>
 popO (SemP PG (Instr.fieldAt T_carrackref03_Reader v1 2)) fun v2 =>
 popO (SemE PG h0 (Instr.loadAt T_int v2)) fun v3 =>
 popO (SemE PG h0 (binS BinOp.neq T_int (.tmp 9) (.const (Value.int IntKind.i64 0)) v3 (Value.int IntKind.i64 0))) fun v4 =>
 condV v4
 (R (Value.tuple #[(Value.string { data := #[] }), (Value.bool false)]) h0)
 (popO (SemP PG (binOp BinOp.lss T_int t1 (Value.int IntKind.i64 0))) fun v5 =>
 gopV (yV v5) false (fun k8 => k8 t1 h0) h0 fun v6 h7 =>
 gopV (yV v5) false (fun k11 => k11 t0 h7) h7 fun v9 h10 =>
 gopV (yV v5) false (fun k14 => popO (SemP PG (nilS v9)) fun v15 => k14 v15 h10) h10 fun v12 h13 =>
 gopV (yV v5) false (fun k18 => popO (SemP PG (Instr.fieldAt T_carrackref03_Reader v12 0)) fun v19 => k18 v19 h13) h13 fun v16 h17 =>
 gopV (yV v5) false (fun k22 => popO (SemE PG h17 (Instr.loadAt T_string v16)) fun v23 => k22 v23 h17) h17 fun v20 h21 =>
 gopV (yV v5) false (fun k26 => popO (SemP PG (Builtin.len_ #[T_string] T_int #[v20])) fun v27 => k26 v27 h21) h21 fun v24 h25 =>
 gopV (yV v5) false (fun k30 => k30 t0 h25) h25 fun v28 h29 =>
 gopV (yV v5) false (fun k33 => popO (SemP PG (nilS v28)) fun v34 => k33 v34 h29) h29 fun v31 h32 =>
 gopV (yV v5) false (fun k37 => popO (SemP PG (Instr.fieldAt T_carrackref03_Reader v31 1)) fun v38 => k37 v38 h32) h32 fun v35 h36 =>
 gopV (yV v5) false (fun k41 => popO (SemE PG h36 (Instr.loadAt T_int v35)) fun v42 => k41 v42 h36) h36 fun v39 h40 =>
 gopV (yV v5) false (fun k45 => popO (SemP PG (binOp BinOp.sub T_int v24 v39)) fun v46 => k45 v46 h40) h40 fun v43 h44 =>
 gopV (yV v5) false (fun k49 => popO (SemP PG (binOp BinOp.gtr T_int v6 v43)) fun v50 => k49 v50 h44) h44 fun v47 h48 =>
 popO (pickV v5 (Value.bool true) v47) fun v51 =>
 condV v51
 (popO (SemP PG (nilS t0)) fun v52 =>
 popO (SemP PG (Instr.fieldAt T_carrackref03_Reader v52 2)) fun v53 =>
 SemH PG (storeS T_int v53 (Value.int IntKind.i64 6)) h48 fun v54 h55 =>
 R (Value.tuple #[(Value.string { data := #[] }), (Value.bool false)]) h55)
 (popO (SemP PG (nilS t0)) fun v56 =>
 popO (SemP PG (Instr.fieldAt T_carrackref03_Reader v56 1)) fun v57 =>
 popO (SemE PG h48 (Instr.loadAt T_int v57)) fun v58 =>
 popO (SemP PG (binOp BinOp.add T_int v58 t1)) fun v59 =>
 popO (SemP PG (nilS t0)) fun v60 =>
 popO (SemP PG (Instr.fieldAt T_carrackref03_Reader v60 1)) fun v61 =>
 SemH PG (storeS T_int v61 v59) h48 fun v62 h63 =>
 popO (SemP PG (nilS t0)) fun v64 =>
 popO (SemP PG (Instr.fieldAt T_carrackref03_Reader v64 0)) fun v65 =>
 popO (SemE PG h63 (Instr.loadAt T_string v65)) fun v66 =>
 popO (SemP PG (nilS t0)) fun v67 =>
 popO (SemP PG (Instr.fieldAt T_carrackref03_Reader v67 1)) fun v68 =>
 popO (SemE PG h63 (Instr.loadAt T_int v68)) fun v69 =>
 popO (SemP PG (binOp BinOp.sub T_int v69 t1)) fun v70 =>
 popO (SemP PG (nilS t0)) fun v71 =>
 popO (SemP PG (Instr.fieldAt T_carrackref03_Reader v71 1)) fun v72 =>
 popO (SemE PG h63 (Instr.loadAt T_int v72)) fun v73 =>
 popO (SemP PG (Instr.sliceAt T_string v66 (some v70) (some v73) none)) fun v74 =>
 R (Value.tuple #[v74, (Value.bool true)]) h63))
def carrackref03_Reader_take.ann : Ann := { b := fun i => match i with | 3 => #[0, 1, 3, 7, 7, 23, 55, 119, 247, 7, 519, 1543, 3591, 8183, 16383, 32767] | 7 => #[0, 1, 3, 7, 0, 16, 48, 112, 0, 496, 0, 1024, 3072, 7168, 16383, 32767, 65535] | _ => #[], ord := fun i => match i with | 3 => [0, 1, 2, 3, 4, 5, 6, 7, 8, 9, 10, 11, 12, 13, 14, 15] | 7 => [0, 1, 2, 3, 4, 5, 6, 7, 8, 9, 10, 11, 12, 13, 14, 15, 16] | _ => [], keep := fun i => match i with  | _ => [] }
theorem carrackref03_Reader_take.eq (t0 : Value) (t1 : Value) (h0 : PH) (R : Value → PH → Prop) : codeF PG carrackref03_Reader_take.ann 200 (bodyOf Try.f72) (endH PG Try.f72 R) (fun t => (#[t0, t1] : Array Value).getD t undef) h0 = carrackref03_Reader_take t0 t1 h0 R := by kernel_rfl
theorem carrackref03_Reader_take.call {t0 : Value} {t1 : Value} {h0 : PH} {R : Value → PH → Prop} (H : carrackref03_Reader_take t0 t1 h0 R) : CallsH PG id_carrackref03_Reader_take #[t0, t1] h0 R :=
  callsF_by carrackref03_Reader_take.ann 200 mix Try.func72 (by kernel_rfl) (by kernel_rfl) (by kernel_rfl) (by kernel_rfl) (by simp [Try.ntmps72]) (carrackref03_Reader_take.eq t0 t1 h0 R) H

def carrackref23_reader_number (t0 : Value) (h0 : PH) (R : Value → PH → Prop) : Prop :=
 ∀ r1, h0 r1 = none → bindH (PH.set h0 r1 (.cells (Value.cells t0) T_carrackref23_reader)) fun h2 =>
 popO (SemP PG (Instr.fieldAt T_carrackref23_reader (Value.pointer (some ⟨r1, 0, none⟩)) 0)) fun v3 =>
 popO (SemE PG h2 (Instr.loadAt T_p_carrackref03_Reader v3)) fun v4 =>
 popO (SemP PG (Instr.build T_carrackref03_Call #[(0, (Value.int IntKind.i64 1))])) fun v5 =>
 CallsH PG id_carrackref03_Reader_Do #[v4, v5] h2 fun v6 h7 =>
 popO (SemP PG (Instr.extract v6 0)) fun v8 =>
 popO (SemP PG (Instr.extract v6 1)) fun v9 =>
 R v8 h7
def carrackref23_reader_number.ann : Ann := { b := fun i => match i with  | _ => #[], ord := fun i => match i with  | _ => [], keep := fun i => match i with  | _ => [] }
theorem carrackref23_reader_number.eq (t0 : Value) (h0 : PH) (R : Value → PH → Prop) : codeF PG carrackref23_reader_number.ann 200 (bodyOf Try.f53) (endH PG Try.f53 R) (fun t => (#[t0] : Array Value).getD t undef) h0 = carrackref23_reader_number t0 h0 R := by kernel_rfl
theorem carrackref23_reader_number.call {t0 : Value} {h0 : PH} {R : Value → PH → Prop} (H : carrackref23_reader_number t0 h0 R) : CallsH PG id_carrackref23_reader_number #[t0] h0 R :=
  callsF_by carrackref23_reader_number.ann 200 mix Try.func53 (by kernel_rfl) (by kernel_rfl) (by kernel_rfl) (by kernel_rfl) (by simp [Try.ntmps53]) (carrackref23_reader_number.eq t0 h0 R) H

def carrackref23_reader_text (t0 : Value) (h0 : PH) (R : Value → PH → Prop) : Prop :=
 ∀ r1, h0 r1 = none → bindH (PH.set h0 r1 (.cells (Value.cells t0) T_carrackref23_reader)) fun h2 =>
 popO (SemP PG (Instr.fieldAt T_carrackref23_reader (Value.pointer (some ⟨r1, 0, none⟩)) 0)) fun v3 =>
 popO (SemE PG h2 (Instr.loadAt T_p_carrackref03_Reader v3)) fun v4 =>
 popO (SemP PG (Instr.build T_carrackref03_Call #[(0, (Value.int IntKind.i64 2))])) fun v5 =>
 CallsH PG id_carrackref03_Reader_Do #[v4, v5] h2 fun v6 h7 =>
 popO (SemP PG (Instr.extract v6 0)) fun v8 =>
 popO (SemP PG (Instr.extract v6 1)) fun v9 =>
 R v9 h7
def carrackref23_reader_text.ann : Ann := { b := fun i => match i with  | _ => #[], ord := fun i => match i with  | _ => [], keep := fun i => match i with  | _ => [] }
theorem carrackref23_reader_text.eq (t0 : Value) (h0 : PH) (R : Value → PH → Prop) : codeF PG carrackref23_reader_text.ann 200 (bodyOf Try.f54) (endH PG Try.f54 R) (fun t => (#[t0] : Array Value).getD t undef) h0 = carrackref23_reader_text t0 h0 R := by kernel_rfl
theorem carrackref23_reader_text.call {t0 : Value} {h0 : PH} {R : Value → PH → Prop} (H : carrackref23_reader_text t0 h0 R) : CallsH PG id_carrackref23_reader_text #[t0] h0 R :=
  callsF_by carrackref23_reader_text.ann 200 mix Try.func54 (by kernel_rfl) (by kernel_rfl) (by kernel_rfl) (by kernel_rfl) (by simp [Try.ntmps54]) (carrackref23_reader_text.eq t0 h0 R) H

def carrackref23_reader_two (t0 : Value) (h0 : PH) (R : Value → PH → Prop) : Prop :=
 ∀ r1, h0 r1 = none → bindH (PH.set h0 r1 (.cells (Value.cells t0) T_carrackref23_reader)) fun h2 =>
 popO (SemE PG h2 (Instr.loadAt T_carrackref23_reader (Value.pointer (some ⟨r1, 0, none⟩)))) fun v3 =>
 CallsH PG id_carrackref23_reader_one #[v3] h2 fun v4 h5 =>
 popO (SemP PG (binOp BinOp.mul T_int v4 (Value.int IntKind.i64 256))) fun v6 =>
 popO (SemE PG h5 (Instr.loadAt T_carrackref23_reader (Value.pointer (some ⟨r1, 0, none⟩)))) fun v7 =>
 CallsH PG id_carrackref23_reader_one #[v7] h5 fun v8 h9 =>
 popO (SemP PG (binOp BinOp.add T_int v6 v8)) fun v10 =>
 R v10 h9
def carrackref23_reader_two.ann : Ann := { b := fun i => match i with  | _ => #[], ord := fun i => match i with  | _ => [], keep := fun i => match i with  | _ => [] }
theorem carrackref23_reader_two.eq (t0 : Value) (h0 : PH) (R : Value → PH → Prop) : codeF PG carrackref23_reader_two.ann 200 (bodyOf Try.f55) (endH PG Try.f55 R) (fun t => (#[t0] : Array Value).getD t undef) h0 = carrackref23_reader_two t0 h0 R := by kernel_rfl
theorem carrackref23_reader_two.call {t0 : Value} {h0 : PH} {R : Value → PH → Prop} (H : carrackref23_reader_two t0 h0 R) : CallsH PG id_carrackref23_reader_two #[t0] h0 R :=
  callsF_by carrackref23_reader_two.ann 200 mix Try.func55 (by kernel_rfl) (by kernel_rfl) (by kernel_rfl) (by kernel_rfl) (by simp [Try.ntmps55]) (carrackref23_reader_two.eq t0 h0 R) H

def carracklaw23_ScriptBack_k47 (R : Value → PH → Prop) (n20 : List Value → PH → Prop) (t0 : Value) (t2 : Value) (t4 : Value) (t7 : Value) (t8 : Value) (t9 : Value) (h0 : PH) : Prop :=
 popO (SemP PG (binOp BinOp.add T_int t9 (Value.int IntKind.i64 1))) fun v48 =>
 n20 [t0, t2, t4, t7, t8, v48] h0
def carracklaw23_ScriptBack_k46 (R : Value → PH → Prop) (n20 : List Value → PH → Prop) (t0 : Value) (t2 : Value) (t4 : Value) (t7 : Value) (t8 : Value) (t9 : Value) (h0 : PH) : Prop :=
 carracklaw23_ScriptBack_k47 R n20 t0 t2 t4 t7 t8 t9 h0
def carracklaw23_ScriptBack_b21 (R : Value → PH → Prop) (n20 : List Value → PH → Prop) (t0 : Value) (t2 : Value) (t4 : Value) (t7 : Value) (t8 : Value) (t9 : Value) (h0 : PH) : Prop :=
 popO (SemP PG (Builtin.len_ #[T_sl_api_Act] T_int #[t0])) fun v22 =>
 popO (SemP PG (binOp BinOp.lss T_int t9 v22)) fun v23 =>
 condV v23
 (popO (SemP PG (Instr.indexAt T_sl_api_Act t0 t9)) fun v24 =>
 popO (SemE PG h0 (Instr.loadAt T_api_Act v24)) fun v25 =>
 CallsH PG id_carracklaw23_few #[v25] h0 fun v26 h27 =>
 popO (SemP PG (Op.unary UnOp.not v26)) fun v28 =>
 condV v28
 (R (Value.bool true) h27)
 (popO (SemP PG (Instr.indexAt T_sl_api_Act t0 t9)) fun v29 =>
 popO (SemE PG h27 (Instr.loadAt T_api_Act v29)) fun v30 =>
 CallsH PG id_script_Put #[v30] h27 fun v31 h32 =>
 popO (SemP PG (Instr.extract v31 0)) fun v33 =>
 popO (SemP PG (Instr.extract v31 1)) fun v34 =>
 popO (SemE PG h32 (binS BinOp.eql T_api_Errno (.tmp 47) (.const (Value.int IntKind.i64 0)) v34 (Value.int IntKind.i64 0))) fun v35 =>
 condV v35
 (popO (SemP PG (binOp BinOp.add T_string t7 v33)) fun v36 =>
 popO (SemP PG (Instr.indexAt T_sl_api_Act t0 t9)) fun v37 =>
 popO (SemE PG h32 (Instr.loadAt T_api_Act v37)) fun v38 =>
 popO (SemP PG (Instr.build T_carrackref23_Entry #[(0, v38)])) fun v39 =>
 popO (SemA PG (Instr.buildSlice T_sl_carrackref23_Entry 1 #[(0, v39)])) fun x41 => ∀ r40, h32 r40 = none → popO (SemP PG (x41.2 r40)) fun v42 => bindH (PH.set h32 r40 x41.1) fun h43 =>
 SemH PG (Builtin.append_ #[T_sl_carrackref23_Entry, T_sl_carrackref23_Entry] T_sl_carrackref23_Entry #[t8, v42]) h43 fun v44 h45 =>
 carracklaw23_ScriptBack_k46 R n20 t0 t2 t4 v36 v44 t9 h45)
 (carracklaw23_ScriptBack_k46 R n20 t0 t2 t4 t7 t8 t9 h32)))
 (CallsH PG id_script_Entries #[t7] h0 fun v49 h50 =>
 CallsH PG id_carracklaw23_entries #[v49, t8] h50 fun v51 h52 =>
 popO (SemP PG (Op.unary UnOp.not v51)) fun v53 =>
 condV v53
 (R (Value.bool false) h52)
 (popO (SemE PG h52 (Instr.loadAt T_api_Config t4)) fun v54 =>
 CallsH PG id_script_PutConfig #[v54] h52 fun v55 h56 =>
 popO (SemP PG (Instr.extract v55 0)) fun v57 =>
 popO (SemP PG (Instr.extract v55 1)) fun v58 =>
 popO (SemE PG h56 (binS BinOp.neq T_api_Errno (.tmp 70) (.const (Value.int IntKind.i64 0)) v58 (Value.int IntKind.i64 0))) fun v59 =>
 condV v59
 (popO (SemE PG h56 (binS BinOp.eql T_string (.tmp 72) (.const (Value.string { data := #[] })) v57 (Value.string { data := #[] }))) fun v60 =>
 R v60 h56)
 (popO (SemP PG (binOp BinOp.add T_string v57 t2)) fun v61 =>
 CallsH PG id_script_Config #[v61] h56 fun v62 h63 =>
 popO (SemP PG (Instr.extract v62 0)) fun v64 =>
 popO (SemP PG (Instr.extract v62 1)) fun v65 =>
 popO (SemP PG (Instr.extract v62 2)) fun v66 =>
 ∀ r67, h63 r67 = none → bindH (PH.set h63 r67 (.cells (zcells PG T_api_Config) T_api_Config)) fun h68 =>
 SemH PG (storeS T_api_Config (Value.pointer (some ⟨r67, 0, none⟩)) v64) h68 fun v69 h70 =>
 popO (SemE PG h70 (binS BinOp.eql T_api_Errno (.tmp 82) (.const (Value.int IntKind.i64 0)) v66 (Value.int IntKind.i64 0))) fun v71 =>
 gopV (yV v71) true (fun k74 => popO (SemE PG h70 (Instr.loadAt T_api_Config (Value.pointer (some ⟨r67, 0, none⟩)))) fun v75 => k74 v75 h70) h70 fun v72 h73 =>
 gopV (yV v71) true (fun k78 => popO (SemE PG h73 (Instr.loadAt T_api_Config t4)) fun v79 => k78 v79 h73) h73 fun v76 h77 =>
 gopV (yV v71) true (fun k82 => popO (SemE PG h77 (binS BinOp.eql T_api_Config (.tmp 85) (.tmp 86) v72 v76)) fun v83 => k82 v83 h77) h77 fun v80 h81 =>
 popO (pickV v71 v80 (Value.bool false)) fun v84 =>
 gopV (yV v84) true (fun k87 => k87 v65 h81) h81 fun v85 h86 =>
 gopV (yV v84) true (fun k90 => k90 t2 h86) h86 fun v88 h89 =>
 gopV (yV v84) true (fun k93 => popO (SemE PG h89 (binS BinOp.eql T_string (.tmp 90) (.tmp 91) v85 v88)) fun v94 => k93 v94 h89) h89 fun v91 h92 =>
 popO (pickV v84 v91 (Value.bool false)) fun v95 =>
 R v95 h92)))
def carracklaw23_ScriptBack (t0 : Value) (t1 : Value) (t2 : Value) (h0 : PH) (R : Value → PH → Prop) : Prop :=
 ∀ r1, h0 r1 = none → bindH (PH.set h0 r1 (.cells (Value.cells t1) T_api_Config)) fun h2 =>
 CallsH PG id_carracklaw23_awake #[] h2 fun v3 h4 =>
 popO (SemP PG (Op.unary UnOp.not v3)) fun v5 =>
 condV v5
 (R (Value.bool false) h4)
 (popO (SemP PG (Builtin.len_ #[T_sl_api_Act] T_int #[t0])) fun v6 =>
 popO (SemP PG (binOp BinOp.gtr T_int v6 (Value.int IntKind.i64 60))) fun v7 =>
 gopV (yV v7) false (fun k10 => k10 t2 h4) h4 fun v8 h9 =>
 gopV (yV v7) false (fun k13 => popO (SemP PG (Builtin.len_ #[T_string] T_int #[v8])) fun v14 => k13 v14 h9) h9 fun v11 h12 =>
 gopV (yV v7) false (fun k17 => popO (SemP PG (binOp BinOp.gtr T_int v11 (Value.int IntKind.i64 1000))) fun v18 => k17 v18 h12) h12 fun v15 h16 =>
 popO (pickV v7 (Value.bool true) v15) fun v19 =>
 condV v19
 (R (Value.bool true) h16)
 (LoopL [0, 2, 4, 7, 8, 9] (fun n20 ρ h => carracklaw23_ScriptBack_b21 R n20 (ρ 0) (ρ 2) (ρ 4) (ρ 7) (ρ 8) (ρ 9) h) [t0, t2, (Value.pointer (some ⟨r1, 0, none⟩)), (Value.string { data := #[] }), (Value.slice none 0 0), (Value.int IntKind.i64 0)] h16))
def carracklaw23_ScriptBack.ann : Ann := { b := fun i => match i with  | _ => #[], ord := fun i => match i with  | _ => [], keep := fun i => match i with | 8 => [0, 2, 4, 7, 8, 9] | _ => [] }
theorem carracklaw23_ScriptBack.eq (t0 : Value) (t1 : Value) (t2 : Value) (h0 : PH) (R : Value → PH → Prop) : codeF PG carracklaw23_ScriptBack.ann 200 (bodyOf Try.f4) (endH PG Try.f4 R) (fun t => (#[t0, t1, t2] : Array Value).getD t undef) h0 = carracklaw23_ScriptBack t0 t1 t2 h0 R := by kernel_rfl
theorem carracklaw23_ScriptBack.call {t0 : Value} {t1 : Value} {t2 : Value} {h0 : PH} {R : Value → PH → Prop} (H : carracklaw23_ScriptBack t0 t1 t2 h0 R) : CallsH PG id_carracklaw23_ScriptBack #[t0, t1, t2] h0 R :=
  callsF_by carracklaw23_ScriptBack.ann 200 mix Try.func4 (by kernel_rfl) (by kernel_rfl) (by kernel_rfl) (by kernel_rfl) (by simp [Try.ntmps4]) (carracklaw23_ScriptBack.eq t0 t1 t2 h0 R) H

def carracklaw23_few (t0 : Value) (h0 : PH) (R : Value → PH → Prop) : Prop :=
 ∀ r1, h0 r1 = none → bindH (PH.set h0 r1 (.cells (Value.cells t0) T_api_Act)) fun h2 =>
 popO (SemP PG (Instr.fieldAt T_api_Act (Value.pointer (some ⟨r1, 0, none⟩)) 3)) fun v3 =>
 popO (SemE PG h2 (Instr.loadAt T_string v3)) fun v4 =>
 popO (SemP PG (Builtin.len_ #[T_string] T_int #[v4])) fun v5 =>
 popO (SemP PG (binOp BinOp.leq T_int v5 (Value.int IntKind.i64 70000))) fun v6 =>
 gopV (yV v6) true (fun k9 => popO (SemP PG (Instr.fieldAt T_api_Act (Value.pointer (some ⟨r1, 0, none⟩)) 5)) fun v10 => k9 v10 h2) h2 fun v7 h8 =>
 gopV (yV v6) true (fun k13 => popO (SemP PG (Instr.fieldAt T_api_Message v7 4)) fun v14 => k13 v14 h8) h8 fun v11 h12 =>
 gopV (yV v6) true (fun k17 => popO (SemE PG h12 (Instr.loadAt T_string v11)) fun v18 => k17 v18 h12) h12 fun v15 h16 =>
 gopV (yV v6) true (fun k21 => popO (SemP PG (Builtin.len_ #[T_string] T_int #[v15])) fun v22 => k21 v22 h16) h16 fun v19 h20 =>
 gopV (yV v6) true (fun k25 => popO (SemP PG (binOp BinOp.leq T_int v19 (Value.int IntKind.i64 70000))) fun v26 => k25 v26 h20) h20 fun v23 h24 =>
 popO (pickV v6 v23 (Value.bool false)) fun v27 =>
 gopV (yV v27) true (fun k30 => popO (SemP PG (Instr.fieldAt T_api_Act (Value.pointer (some ⟨r1, 0, none⟩)) 5)) fun v31 => k30 v31 h24) h24 fun v28 h29 =>
 gopV (yV v27) true (fun k34 => popO (SemP PG (Instr.fieldAt T_api_Message v28 3)) fun v35 => k34 v35 h29) h29 fun v32 h33 =>
 gopV (yV v27) true (fun k38 => popO (SemP PG (Instr.fieldAt T_api_Packet v32 3)) fun v39 => k38 v39 h33) h33 fun v36 h37 =>
 gopV (yV v27) true (fun k42 => popO (SemE PG h37 (Instr.loadAt T_string v36)) fun v43 => k42 v43 h37) h37 fun v40 h41 =>
 gopV (yV v27) true (fun k46 => popO (SemP PG (Builtin.len_ #[T_string] T_int #[v40])) fun v47 => k46 v47 h41) h41 fun v44 h45 =>
 gopV (yV v27) true (fun k50 => popO (SemP PG (binOp BinOp.leq T_int v44 (Value.int IntKind.i64 70000))) fun v51 => k50 v51 h45) h45 fun v48 h49 =>
 popO (pickV v27 v48 (Value.bool false)) fun v52 =>
 gopV (yV v52) true (fun k55 => popO (SemP PG (Instr.fieldAt T_api_Act (Value.pointer (some ⟨r1, 0, none⟩)) 6)) fun v56 => k55 v56 h49) h49 fun v53 h54 =>
 gopV (yV v52) true (fun k59 => popO (SemE PG h54 (Instr.loadAt T_sl_api_Write v53)) fun v60 => k59 v60 h54) h54 fun v57 h58 =>
 gopV (yV v52) true (fun k63 => popO (SemP PG (Builtin.len_ #[T_sl_api_Write] T_int #[v57])) fun v64 => k63 v64 h58) h58 fun v61 h62 =>
 gopV (yV v52) true (fun k67 => popO (SemP PG (binOp BinOp.leq T_int v61 (Value.int IntKind.i64 600))) fun v68 => k67 v68 h62) h62 fun v65 h66 =>
 popO (pickV v52 v65 (Value.bool false)) fun v69 =>
 R v69 h66
def carracklaw23_few.ann : Ann := { b := fun i => match i with  | _ => #[], ord := fun i => match i with  | _ => [], keep := fun i => match i with  | _ => [] }
theorem carracklaw23_few.eq (t0 : Value) (h0 : PH) (R : Value → PH → Prop) : codeF PG carracklaw23_few.ann 200 (bodyOf Try.f12) (endH PG Try.f12 R) (fun t => (#[t0] : Array Value).getD t undef) h0 = carracklaw23_few t0 h0 R := by kernel_rfl
theorem carracklaw23_few.call {t0 : Value} {h0 : PH} {R : Value → PH → Prop} (H : carracklaw23_few t0 h0 R) : CallsH PG id_carracklaw23_few #[t0] h0 R :=
  callsF_by carracklaw23_few.ann 200 mix Try.func12 (by kernel_rfl) (by kernel_rfl) (by kernel_rfl) (by kernel_rfl) (by simp [Try.ntmps12]) (carracklaw23_few.eq t0 h0 R) H

def script_PutConfig_b39 (R : Value → PH → Prop) (n38 : List Value → PH → Prop) (t4 : Value) (t34 : Value) (t35 : Value) (h0 : PH) : Prop :=
 popO (SemP PG (binOp BinOp.lss T_int t35 (Value.int IntKind.i64 4))) fun v40 =>
 condV v40
 (popO (SemP PG (Instr.index T_4_uint64 t34 t35)) fun v41 =>
 CallsH PG id_wire_Writer_Number #[t4, v41] h0 fun v42 h43 =>
 popO (SemP PG (binOp BinOp.add T_int t35 (Value.int IntKind.i64 1))) fun v44 =>
 n38 [t4, t34, v44] h43)
 (CallsH PG id_wire_Writer_Bytes #[t4] h0 fun v45 h46 =>
 popO (SemP PG (Instr.extract v45 0)) fun v47 =>
 popO (SemP PG (Instr.extract v45 1)) fun v48 =>
 R (Value.tuple #[v47, v48]) h46)
def script_PutConfig (t0 : Value) (h0 : PH) (R : Value → PH → Prop) : Prop :=
 ∀ r1, h0 r1 = none → bindH (PH.set h0 r1 (.cells (Value.cells t0) T_api_Config)) fun h2 =>
 ∀ r3, h2 r3 = none → bindH (PH.set h2 r3 (.cells (zcells PG T_wire_Writer) T_wire_Writer)) fun h4 =>
 popO (SemP PG (Instr.fieldAt T_api_Config (Value.pointer (some ⟨r1, 0, none⟩)) 2)) fun v5 =>
 popO (SemE PG h4 (Instr.loadAt T_int v5)) fun v6 =>
 CallsH PG id_wire_Writer_Byte #[(Value.pointer (some ⟨r3, 0, none⟩)), v6] h4 fun v7 h8 =>
 popO (SemP PG (Instr.fieldAt T_api_Config (Value.pointer (some ⟨r1, 0, none⟩)) 3)) fun v9 =>
 popO (SemE PG h8 (Instr.loadAt T_int v9)) fun v10 =>
 CallsH PG id_wire_Writer_Byte #[(Value.pointer (some ⟨r3, 0, none⟩)), v10] h8 fun v11 h12 =>
 popO (SemP PG (Instr.fieldAt T_api_Config (Value.pointer (some ⟨r1, 0, none⟩)) 4)) fun v13 =>
 popO (SemE PG h12 (Instr.loadAt T_int v13)) fun v14 =>
 CallsH PG id_wire_Writer_Byte #[(Value.pointer (some ⟨r3, 0, none⟩)), v14] h12 fun v15 h16 =>
 popO (SemP PG (Instr.fieldAt T_api_Config (Value.pointer (some ⟨r1, 0, none⟩)) 0)) fun v17 =>
 popO (SemE PG h16 (Instr.loadAt T_int v17)) fun v18 =>
 CallsH PG id_script_two #[(Value.pointer (some ⟨r3, 0, none⟩)), v18] h16 fun v19 h20 =>
 popO (SemP PG (Instr.fieldAt T_api_Config (Value.pointer (some ⟨r1, 0, none⟩)) 1)) fun v21 =>
 popO (SemE PG h20 (Instr.loadAt T_int v21)) fun v22 =>
 CallsH PG id_script_two #[(Value.pointer (some ⟨r3, 0, none⟩)), v22] h20 fun v23 h24 =>
 popO (SemP PG (Instr.fieldAt T_api_Config (Value.pointer (some ⟨r1, 0, none⟩)) 5)) fun v25 =>
 popO (SemP PG (Instr.indexAt T_2_uint64 v25 (Value.int IntKind.i64 0))) fun v26 =>
 popO (SemE PG h24 (Instr.loadAt T_uint64 v26)) fun v27 =>
 popO (SemP PG (Instr.fieldAt T_api_Config (Value.pointer (some ⟨r1, 0, none⟩)) 5)) fun v28 =>
 popO (SemP PG (Instr.indexAt T_2_uint64 v28 (Value.int IntKind.i64 1))) fun v29 =>
 popO (SemE PG h24 (Instr.loadAt T_uint64 v29)) fun v30 =>
 popO (SemP PG (Instr.fieldAt T_api_Config (Value.pointer (some ⟨r1, 0, none⟩)) 6)) fun v31 =>
 popO (SemP PG (Instr.indexAt T_2_uint64 v31 (Value.int IntKind.i64 0))) fun v32 =>
 popO (SemE PG h24 (Instr.loadAt T_uint64 v32)) fun v33 =>
 popO (SemP PG (Instr.fieldAt T_api_Config (Value.pointer (some ⟨r1, 0, none⟩)) 6)) fun v34 =>
 popO (SemP PG (Instr.indexAt T_2_uint64 v34 (Value.int IntKind.i64 1))) fun v35 =>
 popO (SemE PG h24 (Instr.loadAt T_uint64 v35)) fun v36 =>
 popO (SemP PG (Instr.build T_4_uint64 #[(0, v27), (1, v30), (2, v33), (3, v36)])) fun v37 =>
 LoopL [4, 34, 35] (fun n38 ρ h => script_PutConfig_b39 R n38 (ρ 4) (ρ 34) (ρ 35) h) [(Value.pointer (some ⟨r3, 0, none⟩)), v37, (Value.int IntKind.i64 0)] h24
def script_PutConfig.ann : Ann := { b := fun i => match i with  | _ => #[], ord := fun i => match i with  | _ => [], keep := fun i => match i with | 8 => [4, 34, 35] | _ => [] }
theorem script_PutConfig.eq (t0 : Value) (h0 : PH) (R : Value → PH → Prop) : codeF PG script_PutConfig.ann 200 (bodyOf Try.f14) (endH PG Try.f14 R) (fun t => (#[t0] : Array Value).getD t undef) h0 = script_PutConfig t0 h0 R := by kernel_rfl
theorem script_PutConfig.call {t0 : Value} {h0 : PH} {R : Value → PH → Prop} (H : script_PutConfig t0 h0 R) : CallsH PG id_script_PutConfig #[t0] h0 R :=
  callsF_by script_PutConfig.ann 200 mix Try.func14 (by kernel_rfl) (by kernel_rfl) (by kernel_rfl) (by kernel_rfl) (by simp [Try.ntmps14]) (script_PutConfig.eq t0 h0 R) H

def carracklaw23_ScriptPuts_b25 (R : Value → PH → Prop) (n24 : List Value → PH → Prop) (t2 : Value) (t3 : Value) (t4 : Value) (t7 : Value) (h0 : PH) : Prop :=
 popO (SemP PG (Builtin.len_ #[T_sl_api_Reply] T_int #[t2])) fun v26 =>
 popO (SemP PG (binOp BinOp.lss T_int t7 v26)) fun v27 =>
 condV v27
 (popO (SemP PG (Instr.indexAt T_sl_api_Reply t2 t7)) fun v28 =>
 popO (SemP PG (Instr.fieldAt T_api_Reply v28 3)) fun v29 =>
 popO (SemE PG h0 (Instr.loadAt T_sl_api_Errno v29)) fun v30 =>
 popO (SemP PG (Builtin.len_ #[T_sl_api_Errno] T_int #[v30])) fun v31 =>
 popO (SemP PG (binOp BinOp.gtr T_int v31 (Value.int IntKind.i64 600))) fun v32 =>
 condV v32
 (R (Value.bool true) h0)
 (popO (SemP PG (binOp BinOp.add T_int t7 (Value.int IntKind.i64 1))) fun v33 =>
 n24 [t2, t3, t4, v33] h0))
 (popO (SemE PG h0 (Instr.loadAt T_api_Act t3)) fun v34 =>
 CallsH PG id_script_Put #[v34] h0 fun v35 h36 =>
 popO (SemP PG (Instr.extract v35 0)) fun v37 =>
 popO (SemP PG (Instr.extract v35 1)) fun v38 =>
 popO (SemE PG h36 (Instr.loadAt T_api_Act t3)) fun v39 =>
 CallsH PG id_carrackref23_Put #[v39] h36 fun v40 h41 =>
 popO (SemP PG (Instr.extract v40 0)) fun v42 =>
 popO (SemP PG (Instr.extract v40 1)) fun v43 =>
 popO (SemE PG h41 (Instr.loadAt T_api_Config t4)) fun v44 =>
 CallsH PG id_script_PutConfig #[v44] h41 fun v45 h46 =>
 popO (SemP PG (Instr.extract v45 0)) fun v47 =>
 popO (SemP PG (Instr.extract v45 1)) fun v48 =>
 popO (SemE PG h46 (Instr.loadAt T_api_Config t4)) fun v49 =>
 CallsH PG id_carrackref23_PutConfig #[v49] h46 fun v50 h51 =>
 popO (SemP PG (Instr.extract v50 0)) fun v52 =>
 popO (SemP PG (Instr.extract v50 1)) fun v53 =>
 popO (SemE PG h51 (binS BinOp.eql T_string (.tmp 59) (.tmp 60) v37 v42)) fun v54 =>
 gopV (yV v54) true (fun k57 => k57 v38 h51) h51 fun v55 h56 =>
 gopV (yV v54) true (fun k60 => k60 v43 h56) h56 fun v58 h59 =>
 gopV (yV v54) true (fun k63 => popO (SemE PG h59 (binS BinOp.eql T_int (.tmp 63) (.tmp 64) v55 v58)) fun v64 => k63 v64 h59) h59 fun v61 h62 =>
 popO (pickV v54 v61 (Value.bool false)) fun v65 =>
 gopV (yV v65) true (fun k68 => k68 v47 h62) h62 fun v66 h67 =>
 gopV (yV v65) true (fun k71 => k71 v52 h67) h67 fun v69 h70 =>
 gopV (yV v65) true (fun k74 => popO (SemE PG h70 (binS BinOp.eql T_string (.tmp 68) (.tmp 69) v66 v69)) fun v75 => k74 v75 h70) h70 fun v72 h73 =>
 popO (pickV v65 v72 (Value.bool false)) fun v76 =>
 gopV (yV v76) true (fun k79 => k79 v48 h73) h73 fun v77 h78 =>
 gopV (yV v76) true (fun k82 => k82 v53 h78) h78 fun v80 h81 =>
 gopV (yV v76) true (fun k85 => popO (SemE PG h81 (binS BinOp.eql T_int (.tmp 73) (.tmp 74) v77 v80)) fun v86 => k85 v86 h81) h81 fun v83 h84 =>
 popO (pickV v76 v83 (Value.bool false)) fun v87 =>
 gopV (yV v87) true (fun k90 => k90 t2 h84) h84 fun v88 h89 =>
 gopV (yV v87) true (fun k93 => CallsH PG id_script_Bytes #[v88] h89 fun v94 h95 => k93 v94 h95) h89 fun v91 h92 =>
 gopV (yV v87) true (fun k98 => k98 t2 h92) h92 fun v96 h97 =>
 gopV (yV v87) true (fun k101 => CallsH PG id_carrackref23_Bytes #[v96] h97 fun v102 h103 => k101 v102 h103) h97 fun v99 h100 =>
 gopV (yV v87) true (fun k106 => popO (SemE PG h100 (binS BinOp.eql T_string (.tmp 79) (.tmp 81) v91 v99)) fun v107 => k106 v107 h100) h100 fun v104 h105 =>
 popO (pickV v87 v104 (Value.bool false)) fun v108 =>
 R v108 h105)
def carracklaw23_ScriptPuts (t0 : Value) (t1 : Value) (t2 : Value) (h0 : PH) (R : Value → PH → Prop) : Prop :=
 ∀ r1, h0 r1 = none → bindH (PH.set h0 r1 (.cells (Value.cells t0) T_api_Act)) fun h2 =>
 ∀ r3, h2 r3 = none → bindH (PH.set h2 r3 (.cells (Value.cells t1) T_api_Config)) fun h4 =>
 CallsH PG id_carracklaw23_awake #[] h4 fun v5 h6 =>
 popO (SemP PG (Op.unary UnOp.not v5)) fun v7 =>
 condV v7
 (R (Value.bool false) h6)
 (popO (SemE PG h6 (Instr.loadAt T_api_Act (Value.pointer (some ⟨r1, 0, none⟩)))) fun v8 =>
 CallsH PG id_carracklaw23_few #[v8] h6 fun v9 h10 =>
 popO (SemP PG (Op.unary UnOp.not v9)) fun v11 =>
 gopV (yV v11) false (fun k14 => k14 t2 h10) h10 fun v12 h13 =>
 gopV (yV v11) false (fun k17 => popO (SemP PG (Builtin.len_ #[T_sl_api_Reply] T_int #[v12])) fun v18 => k17 v18 h13) h13 fun v15 h16 =>
 gopV (yV v11) false (fun k21 => popO (SemP PG (binOp BinOp.gtr T_int v15 (Value.int IntKind.i64 40))) fun v22 => k21 v22 h16) h16 fun v19 h20 =>
 popO (pickV v11 (Value.bool true) v19) fun v23 =>
 condV v23
 (R (Value.bool true) h20)
 (LoopL [2, 3, 4, 7] (fun n24 ρ h => carracklaw23_ScriptPuts_b25 R n24 (ρ 2) (ρ 3) (ρ 4) (ρ 7) h) [t2, (Value.pointer (some ⟨r1, 0, none⟩)), (Value.pointer (some ⟨r3, 0, none⟩)), (Value.int IntKind.i64 0)] h20))
def carracklaw23_ScriptPuts.ann : Ann := { b := fun i => match i with  | _ => #[], ord := fun i => match i with  | _ => [], keep := fun i => match i with | 6 => [2, 3, 4, 7] | _ => [] }
theorem carracklaw23_ScriptPuts.eq (t0 : Value) (t1 : Value) (t2 : Value) (h0 : PH) (R : Value → PH → Prop) : codeF PG carracklaw23_ScriptPuts.ann 200 (bodyOf Try.f5) (endH PG Try.f5 R) (fun t => (#[t0, t1, t2] : Array Value).getD t undef) h0 = carracklaw23_ScriptPuts t0 t1 t2 h0 R := by kernel_rfl
theorem carracklaw23_ScriptPuts.call {t0 : Value} {t1 : Value} {t2 : Value} {h0 : PH} {R : Value → PH → Prop} (H : carracklaw23_ScriptPuts t0 t1 t2 h0 R) : CallsH PG id_carracklaw23_ScriptPuts #[t0, t1, t2] h0 R :=
  callsF_by carracklaw23_ScriptPuts.ann 200 mix Try.func5 (by kernel_rfl) (by kernel_rfl) (by kernel_rfl) (by kernel_rfl) (by simp [Try.ntmps5]) (carracklaw23_ScriptPuts.eq t0 t1 t2 h0 R) H

def carrackref23_Put_k90 (R : Value → PH → Prop) (t4 : Value) (t5 : Value) (h0 : PH) : Prop :=
 popO (SemP PG (Op.unary UnOp.not t5)) fun v91 =>
 condV v91
 (R (Value.tuple #[(Value.string { data := #[] }), (Value.int IntKind.i64 1)]) h0)
 (R (Value.tuple #[t4, (Value.int IntKind.i64 0)]) h0)
def carrackref23_Put_k89 (R : Value → PH → Prop) (t4 : Value) (t5 : Value) (h0 : PH) : Prop :=
 carrackref23_Put_k90 R t4 t5 h0
def carrackref23_Put_k269 (R : Value → PH → Prop) (n232 : List Value → PH → Prop) (t1 : Value) (t4 : Value) (t5 : Value) (t8 : Value) (h0 : PH) : Prop :=
 popO (SemP PG (binOp BinOp.add T_int t8 (Value.int IntKind.i64 1))) fun v270 =>
 n232 [t1, t4, t5, v270] h0
def carrackref23_Put_k268 (R : Value → PH → Prop) (n232 : List Value → PH → Prop) (t1 : Value) (t4 : Value) (t5 : Value) (t8 : Value) (h0 : PH) : Prop :=
 carrackref23_Put_k269 R n232 t1 t4 t5 t8 h0
def carrackref23_Put_b233 (R : Value → PH → Prop) (n232 : List Value → PH → Prop) (t1 : Value) (t4 : Value) (t5 : Value) (t8 : Value) (h0 : PH) : Prop :=
 popO (SemP PG (Instr.fieldAt T_api_Act t1 6)) fun v234 =>
 popO (SemE PG h0 (Instr.loadAt T_sl_api_Write v234)) fun v235 =>
 popO (SemP PG (Builtin.len_ #[T_sl_api_Write] T_int #[v235])) fun v236 =>
 popO (SemP PG (binOp BinOp.lss T_int t8 v236)) fun v237 =>
 condV v237
 (popO (SemP PG (Instr.fieldAt T_api_Act t1 6)) fun v238 =>
 popO (SemE PG h0 (Instr.loadAt T_sl_api_Write v238)) fun v239 =>
 popO (SemP PG (Instr.indexAt T_sl_api_Write v239 t8)) fun v240 =>
 popO (SemE PG h0 (Instr.loadAt T_api_Write v240)) fun v241 =>
 ∀ r242, h0 r242 = none → bindH (PH.set h0 r242 (.cells (zcells PG T_api_Write) T_api_Write)) fun h243 =>
 SemH PG (storeS T_api_Write (Value.pointer (some ⟨r242, 0, none⟩)) v241) h243 fun v244 h245 =>
 gopV (yV t5) true (fun k248 => popO (SemP PG (Instr.fieldAt T_api_Write (Value.pointer (some ⟨r242, 0, none⟩)) 1)) fun v249 => k248 v249 h245) h245 fun v246 h247 =>
 gopV (yV t5) true (fun k252 => popO (SemE PG h247 (Instr.loadAt T_int v246)) fun v253 => k252 v253 h247) h247 fun v250 h251 =>
 gopV (yV t5) true (fun k256 => CallsH PG id_carrackref23_fits #[v250, (Value.int IntKind.i64 2)] h251 fun v257 h258 => k256 v257 h258) h251 fun v254 h255 =>
 popO (pickV t5 v254 (Value.bool false)) fun v259 =>
 popO (SemP PG (Instr.fieldAt T_api_Write (Value.pointer (some ⟨r242, 0, none⟩)) 0)) fun v260 =>
 popO (SemE PG h255 (Instr.loadAt T_bool v260)) fun v261 =>
 condV v261
 (popO (SemP PG (binOp BinOp.add T_string t4 (Value.string { data := #[1] }))) fun v262 =>
 popO (SemP PG (Instr.fieldAt T_api_Write (Value.pointer (some ⟨r242, 0, none⟩)) 1)) fun v263 =>
 popO (SemE PG h255 (Instr.loadAt T_int v263)) fun v264 =>
 CallsH PG id_carrackref23_num #[v264, (Value.int IntKind.i64 2)] h255 fun v265 h266 =>
 popO (SemP PG (binOp BinOp.add T_string v262 v265)) fun v267 =>
 carrackref23_Put_k268 R n232 t1 v267 v259 t8 h266)
 (popO (SemP PG (binOp BinOp.add T_string t4 (Value.string { data := #[0] }))) fun v271 =>
 popO (SemP PG (Instr.fieldAt T_api_Write (Value.pointer (some ⟨r242, 0, none⟩)) 1)) fun v272 =>
 popO (SemE PG h255 (Instr.loadAt T_int v272)) fun v273 =>
 CallsH PG id_carrackref23_num #[v273, (Value.int IntKind.i64 2)] h255 fun v274 h275 =>
 popO (SemP PG (binOp BinOp.add T_string v271 v274)) fun v276 =>
 carrackref23_Put_k268 R n232 t1 v276 v259 t8 h275))
 (carrackref23_Put_k89 R t4 t5 h0)
def carrackref23_Put_k103 (R : Value → PH → Prop) (t1 : Value) (t4 : Value) (t5 : Value) (t6 : Value) (t7 : Value) (t32 : Value) (t67 : Value) (h0 : PH) : Prop :=
 condV t67
 (popO (SemP PG (Instr.fieldAt T_api_Act t1 4)) fun v104 =>
 popO (SemE PG h0 (Instr.loadAt T_int v104)) fun v105 =>
 CallsH PG id_carrackref23_fits #[v105, (Value.int IntKind.i64 1)] h0 fun v106 h107 =>
 popO (SemP PG (Instr.fieldAt T_api_Act t1 4)) fun v108 =>
 popO (SemE PG h107 (Instr.loadAt T_int v108)) fun v109 =>
 CallsH PG id_carrackref23_num #[v109, (Value.int IntKind.i64 1)] h107 fun v110 h111 =>
 popO (SemP PG (binOp BinOp.add T_string t4 v110)) fun v112 =>
 carrackref23_Put_k89 R v112 v106 h111)
 (popO (SemE PG h0 (binS BinOp.eql T_int (.tmp 32) (.const (Value.int IntKind.i64 6)) t32 (Value.int IntKind.i64 6))) fun v113 =>
 condV v113
 (popO (SemP PG (Instr.fieldAt T_api_Message t6 0)) fun v114 =>
 popO (SemE PG h0 (Instr.loadAt T_int v114)) fun v115 =>
 CallsH PG id_carrackref23_fits #[v115, (Value.int IntKind.i64 1)] h0 fun v116 h117 =>
 gopV (yV v116) true (fun k120 => popO (SemP PG (Instr.fieldAt T_api_Message t6 1)) fun v121 => k120 v121 h117) h117 fun v118 h119 =>
 gopV (yV v116) true (fun k124 => popO (SemE PG h119 (Instr.loadAt T_int v118)) fun v125 => k124 v125 h119) h119 fun v122 h123 =>
 gopV (yV v116) true (fun k128 => CallsH PG id_carrackref23_fits #[v122, (Value.int IntKind.i64 1)] h123 fun v129 h130 => k128 v129 h130) h123 fun v126 h127 =>
 popO (pickV v116 v126 (Value.bool false)) fun v131 =>
 gopV (yV v131) true (fun k134 => popO (SemP PG (Instr.fieldAt T_api_Packet t7 0)) fun v135 => k134 v135 h127) h127 fun v132 h133 =>
 gopV (yV v131) true (fun k138 => popO (SemE PG h133 (Instr.loadAt T_int v132)) fun v139 => k138 v139 h133) h133 fun v136 h137 =>
 gopV (yV v131) true (fun k142 => CallsH PG id_carrackref23_fits #[v136, (Value.int IntKind.i64 1)] h137 fun v143 h144 => k142 v143 h144) h137 fun v140 h141 =>
 popO (pickV v131 v140 (Value.bool false)) fun v145 =>
 gopV (yV v145) true (fun k148 => popO (SemP PG (Instr.fieldAt T_api_Packet t7 3)) fun v149 => k148 v149 h141) h141 fun v146 h147 =>
 gopV (yV v145) true (fun k152 => popO (SemE PG h147 (Instr.loadAt T_string v146)) fun v153 => k152 v153 h147) h147 fun v150 h151 =>
 gopV (yV v145) true (fun k156 => popO (SemP PG (Builtin.len_ #[T_string] T_int #[v150])) fun v157 => k156 v157 h151) h151 fun v154 h155 =>
 gopV (yV v145) true (fun k160 => popO (SemP PG (binOp BinOp.leq T_int v154 (Value.int IntKind.i64 65535))) fun v161 => k160 v161 h155) h155 fun v158 h159 =>
 popO (pickV v145 v158 (Value.bool false)) fun v162 =>
 gopV (yV v162) true (fun k165 => popO (SemP PG (Instr.fieldAt T_api_Message t6 4)) fun v166 => k165 v166 h159) h159 fun v163 h164 =>
 gopV (yV v162) true (fun k169 => popO (SemE PG h164 (Instr.loadAt T_string v163)) fun v170 => k169 v170 h164) h164 fun v167 h168 =>
 gopV (yV v162) true (fun k173 => popO (SemP PG (Builtin.len_ #[T_string] T_int #[v167])) fun v174 => k173 v174 h168) h168 fun v171 h172 =>
 gopV (yV v162) true (fun k177 => popO (SemP PG (binOp BinOp.leq T_int v171 (Value.int IntKind.i64 65535))) fun v178 => k177 v178 h172) h172 fun v175 h176 =>
 popO (pickV v162 v175 (Value.bool false)) fun v179 =>
 popO (SemP PG (Instr.fieldAt T_api_Message t6 0)) fun v180 =>
 popO (SemE PG h176 (Instr.loadAt T_int v180)) fun v181 =>
 popO (SemP PG (Instr.fieldAt T_api_Message t6 1)) fun v182 =>
 popO (SemE PG h176 (Instr.loadAt T_int v182)) fun v183 =>
 popO (SemP PG (Instr.fieldAt T_api_Message t6 2)) fun v184 =>
 popO (SemE PG h176 (Instr.loadAt T_uint64 v184)) fun v185 =>
 popO (SemP PG (Instr.fieldAt T_api_Packet t7 0)) fun v186 =>
 popO (SemE PG h176 (Instr.loadAt T_int v186)) fun v187 =>
 popO (SemP PG (Instr.fieldAt T_api_Packet t7 1)) fun v188 =>
 popO (SemE PG h176 (Instr.loadAt T_uint64 v188)) fun v189 =>
 popO (SemP PG (Instr.fieldAt T_api_Packet t7 2)) fun v190 =>
 popO (SemE PG h176 (Instr.loadAt T_uint64 v190)) fun v191 =>
 popO (SemP PG (Instr.fieldAt T_api_Packet t7 3)) fun v192 =>
 popO (SemE PG h176 (Instr.loadAt T_string v192)) fun v193 =>
 popO (SemP PG (Instr.fieldAt T_api_Message t6 4)) fun v194 =>
 popO (SemE PG h176 (Instr.loadAt T_string v194)) fun v195 =>
 CallsH PG id_carrackref23_num #[v181, (Value.int IntKind.i64 1)] h176 fun v196 h197 =>
 SemE PG h197 (Instr.loadAt T_string v194) = some v195 ∧ SemE PG h197 (Instr.loadAt T_string v192) = some v193 ∧ SemE PG h197 (Instr.loadAt T_uint64 v190) = some v191 ∧ SemE PG h197 (Instr.loadAt T_uint64 v188) = some v189 ∧ SemE PG h197 (Instr.loadAt T_int v186) = some v187 ∧ SemE PG h197 (Instr.loadAt T_uint64 v184) = some v185 ∧ SemE PG h197 (Instr.loadAt T_int v182) = some v183 ∧ (popO (SemP PG (binOp BinOp.add T_string t4 v196)) fun v198 =>
 CallsH PG id_carrackref23_num #[v183, (Value.int IntKind.i64 1)] h197 fun v199 h200 =>
 SemE PG h200 (Instr.loadAt T_string v194) = some v195 ∧ SemE PG h200 (Instr.loadAt T_string v192) = some v193 ∧ SemE PG h200 (Instr.loadAt T_uint64 v190) = some v191 ∧ SemE PG h200 (Instr.loadAt T_uint64 v188) = some v189 ∧ SemE PG h200 (Instr.loadAt T_int v186) = some v187 ∧ SemE PG h200 (Instr.loadAt T_uint64 v184) = some v185 ∧ (popO (SemP PG (binOp BinOp.add T_string v198 v199)) fun v201 =>
 CallsH PG id_carrackref03_Bytes #[v185, (Value.int IntKind.i64 8)] h200 fun v202 h203 =>
 SemE PG h203 (Instr.loadAt T_string v194) = some v195 ∧ SemE PG h203 (Instr.loadAt T_string v192) = some v193 ∧ SemE PG h203 (Instr.loadAt T_uint64 v190) = some v191 ∧ SemE PG h203 (Instr.loadAt T_uint64 v188) = some v189 ∧ SemE PG h203 (Instr.loadAt T_int v186) = some v187 ∧ (popO (SemP PG (binOp BinOp.add T_string v201 v202)) fun v204 =>
 CallsH PG id_carrackref23_num #[v187, (Value.int IntKind.i64 1)] h203 fun v205 h206 =>
 SemE PG h206 (Instr.loadAt T_string v194) = some v195 ∧ SemE PG h206 (Instr.loadAt T_string v192) = some v193 ∧ SemE PG h206 (Instr.loadAt T_uint64 v190) = some v191 ∧ SemE PG h206 (Instr.loadAt T_uint64 v188) = some v189 ∧ (popO (SemP PG (binOp BinOp.add T_string v204 v205)) fun v207 =>
 CallsH PG id_carrackref03_Bytes #[v189, (Value.int IntKind.i64 8)] h206 fun v208 h209 =>
 SemE PG h209 (Instr.loadAt T_string v194) = some v195 ∧ SemE PG h209 (Instr.loadAt T_string v192) = some v193 ∧ SemE PG h209 (Instr.loadAt T_uint64 v190) = some v191 ∧ (popO (SemP PG (binOp BinOp.add T_string v207 v208)) fun v210 =>
 CallsH PG id_carrackref03_Bytes #[v191, (Value.int IntKind.i64 8)] h209 fun v211 h212 =>
 SemE PG h212 (Instr.loadAt T_string v194) = some v195 ∧ SemE PG h212 (Instr.loadAt T_string v192) = some v193 ∧ (popO (SemP PG (binOp BinOp.add T_string v210 v211)) fun v213 =>
 CallsH PG id_carrackref23_text #[v193] h212 fun v214 h215 =>
 SemE PG h215 (Instr.loadAt T_string v194) = some v195 ∧ (popO (SemP PG (binOp BinOp.add T_string v213 v214)) fun v216 =>
 CallsH PG id_carrackref23_text #[v195] h215 fun v217 h218 =>
 (popO (SemP PG (binOp BinOp.add T_string v216 v217)) fun v219 =>
 carrackref23_Put_k89 R v219 v179 h218)))))))))
 (popO (SemE PG h0 (binS BinOp.eql T_int (.tmp 32) (.const (Value.int IntKind.i64 8)) t32 (Value.int IntKind.i64 8))) fun v220 =>
 condV v220
 (popO (SemP PG (Instr.fieldAt T_api_Act t1 6)) fun v221 =>
 popO (SemE PG h0 (Instr.loadAt T_sl_api_Write v221)) fun v222 =>
 popO (SemP PG (Builtin.len_ #[T_sl_api_Write] T_int #[v222])) fun v223 =>
 CallsH PG id_carrackref23_fits #[v223, (Value.int IntKind.i64 1)] h0 fun v224 h225 =>
 popO (SemP PG (Instr.fieldAt T_api_Act t1 6)) fun v226 =>
 popO (SemE PG h225 (Instr.loadAt T_sl_api_Write v226)) fun v227 =>
 popO (SemP PG (Builtin.len_ #[T_sl_api_Write] T_int #[v227])) fun v228 =>
 CallsH PG id_carrackref23_num #[v228, (Value.int IntKind.i64 1)] h225 fun v229 h230 =>
 popO (SemP PG (binOp BinOp.add T_string t4 v229)) fun v231 =>
 LoopL [1, 4, 5, 8] (fun n232 ρ h => carrackref23_Put_b233 R n232 (ρ 1) (ρ 4) (ρ 5) (ρ 8) h) [t1, v231, v224, (Value.int IntKind.i64 0)] h230)
 (carrackref23_Put_k89 R t4 t5 h0)))
def carrackref23_Put (t0 : Value) (h0 : PH) (R : Value → PH → Prop) : Prop :=
 ∀ r1, h0 r1 = none → bindH (PH.set h0 r1 (.cells (Value.cells t0) T_api_Act)) fun h2 =>
 popO (SemP PG (Instr.fieldAt T_api_Act (Value.pointer (some ⟨r1, 0, none⟩)) 0)) fun v3 =>
 popO (SemE PG h2 (Instr.loadAt T_int v3)) fun v4 =>
 popO (SemP PG (binOp BinOp.lss T_int v4 (Value.int IntKind.i64 0))) fun v5 =>
 gopV (yV v5) false (fun k8 => popO (SemP PG (Instr.fieldAt T_api_Act (Value.pointer (some ⟨r1, 0, none⟩)) 0)) fun v9 => k8 v9 h2) h2 fun v6 h7 =>
 gopV (yV v5) false (fun k12 => popO (SemE PG h7 (Instr.loadAt T_int v6)) fun v13 => k12 v13 h7) h7 fun v10 h11 =>
 gopV (yV v5) false (fun k16 => popO (SemP PG (binOp BinOp.gtr T_int v10 (Value.int IntKind.i64 8))) fun v17 => k16 v17 h11) h11 fun v14 h15 =>
 popO (pickV v5 (Value.bool true) v14) fun v18 =>
 gopV (yV v18) false (fun k21 => popO (SemE PG h15 (Instr.loadAt T_api_Act (Value.pointer (some ⟨r1, 0, none⟩)))) fun v22 => k21 v22 h15) h15 fun v19 h20 =>
 gopV (yV v18) false (fun k25 => CallsH PG id_carrackref23_rest #[v19] h20 fun v26 h27 => k25 v26 h27) h20 fun v23 h24 =>
 gopV (yV v18) false (fun k30 => popO (SemP PG (Op.unary UnOp.not v23)) fun v31 => k30 v31 h24) h24 fun v28 h29 =>
 popO (pickV v18 (Value.bool true) v28) fun v32 =>
 condV v32
 (R (Value.tuple #[(Value.string { data := #[] }), (Value.int IntKind.i64 5)]) h29)
 (popO (SemP PG (Instr.fieldAt T_api_Act (Value.pointer (some ⟨r1, 0, none⟩)) 0)) fun v33 =>
 popO (SemE PG h29 (Instr.loadAt T_int v33)) fun v34 =>
 CallsH PG id_carrackref23_num #[v34, (Value.int IntKind.i64 1)] h29 fun v35 h36 =>
 popO (SemP PG (Instr.fieldAt T_api_Act (Value.pointer (some ⟨r1, 0, none⟩)) 5)) fun v37 =>
 popO (SemE PG h36 (Instr.loadAt T_api_Message v37)) fun v38 =>
 popO (SemP PG (Instr.fieldAt T_api_Act (Value.pointer (some ⟨r1, 0, none⟩)) 5)) fun v39 =>
 popO (SemP PG (Instr.fieldAt T_api_Message v39 3)) fun v40 =>
 popO (SemE PG h36 (Instr.loadAt T_api_Packet v40)) fun v41 =>
 ∀ r42, h36 r42 = none → bindH (PH.set h36 r42 (.cells (zcells PG T_api_Message) T_api_Message)) fun h43 =>
 ∀ r44, h43 r44 = none → bindH (PH.set h43 r44 (.cells (zcells PG T_api_Packet) T_api_Packet)) fun h45 =>
 SemH PG (storeS T_api_Message (Value.pointer (some ⟨r42, 0, none⟩)) v38) h45 fun v46 h47 =>
 SemE PG h47 (Instr.loadAt T_api_Packet v40) = some v41 ∧ (SemH PG (storeS T_api_Packet (Value.pointer (some ⟨r44, 0, none⟩)) v41) h47 fun v48 h49 =>
 (popO (SemP PG (Instr.fieldAt T_api_Act (Value.pointer (some ⟨r1, 0, none⟩)) 0)) fun v50 =>
 popO (SemE PG h49 (Instr.loadAt T_int v50)) fun v51 =>
 popO (SemE PG h49 (binS BinOp.eql T_int (.tmp 32) (.const (Value.int IntKind.i64 0)) v51 (Value.int IntKind.i64 0))) fun v52 =>
 condV v52
 (popO (SemP PG (Instr.fieldAt T_api_Act (Value.pointer (some ⟨r1, 0, none⟩)) 1)) fun v53 =>
 popO (SemE PG h49 (Instr.loadAt T_int v53)) fun v54 =>
 CallsH PG id_carrackref23_fits #[v54, (Value.int IntKind.i64 1)] h49 fun v55 h56 =>
 gopV (yV v55) true (fun k59 => popO (SemP PG (Instr.fieldAt T_api_Act (Value.pointer (some ⟨r1, 0, none⟩)) 3)) fun v60 => k59 v60 h56) h56 fun v57 h58 =>
 gopV (yV v55) true (fun k63 => popO (SemE PG h58 (Instr.loadAt T_string v57)) fun v64 => k63 v64 h58) h58 fun v61 h62 =>
 gopV (yV v55) true (fun k67 => popO (SemP PG (Builtin.len_ #[T_string] T_int #[v61])) fun v68 => k67 v68 h62) h62 fun v65 h66 =>
 gopV (yV v55) true (fun k71 => popO (SemP PG (binOp BinOp.leq T_int v65 (Value.int IntKind.i64 65535))) fun v72 => k71 v72 h66) h66 fun v69 h70 =>
 popO (pickV v55 v69 (Value.bool false)) fun v73 =>
 popO (SemP PG (Instr.fieldAt T_api_Act (Value.pointer (some ⟨r1, 0, none⟩)) 1)) fun v74 =>
 popO (SemE PG h70 (Instr.loadAt T_int v74)) fun v75 =>
 popO (SemP PG (Instr.fieldAt T_api_Act (Value.pointer (some ⟨r1, 0, none⟩)) 2)) fun v76 =>
 popO (SemE PG h70 (Instr.loadAt T_uint64 v76)) fun v77 =>
 popO (SemP PG (Instr.fieldAt T_api_Act (Value.pointer (some ⟨r1, 0, none⟩)) 3)) fun v78 =>
 popO (SemE PG h70 (Instr.loadAt T_string v78)) fun v79 =>
 CallsH PG id_carrackref23_num #[v75, (Value.int IntKind.i64 1)] h70 fun v80 h81 =>
 SemE PG h81 (Instr.loadAt T_string v78) = some v79 ∧ SemE PG h81 (Instr.loadAt T_uint64 v76) = some v77 ∧ (popO (SemP PG (binOp BinOp.add T_string v35 v80)) fun v82 =>
 CallsH PG id_carrackref03_Bytes #[v77, (Value.int IntKind.i64 8)] h81 fun v83 h84 =>
 SemE PG h84 (Instr.loadAt T_string v78) = some v79 ∧ (popO (SemP PG (binOp BinOp.add T_string v82 v83)) fun v85 =>
 CallsH PG id_carrackref23_text #[v79] h84 fun v86 h87 =>
 (popO (SemP PG (binOp BinOp.add T_string v85 v86)) fun v88 =>
 carrackref23_Put_k89 R v88 v73 h87))))
 (popO (SemE PG h49 (binS BinOp.eql T_int (.tmp 32) (.const (Value.int IntKind.i64 1)) v51 (Value.int IntKind.i64 1))) fun v92 =>
 condV v92
 (popO (SemP PG (Instr.fieldAt T_api_Act (Value.pointer (some ⟨r1, 0, none⟩)) 1)) fun v93 =>
 popO (SemE PG h49 (Instr.loadAt T_int v93)) fun v94 =>
 CallsH PG id_carrackref23_fits #[v94, (Value.int IntKind.i64 1)] h49 fun v95 h96 =>
 popO (SemP PG (Instr.fieldAt T_api_Act (Value.pointer (some ⟨r1, 0, none⟩)) 1)) fun v97 =>
 popO (SemE PG h96 (Instr.loadAt T_int v97)) fun v98 =>
 CallsH PG id_carrackref23_num #[v98, (Value.int IntKind.i64 1)] h96 fun v99 h100 =>
 popO (SemP PG (binOp BinOp.add T_string v35 v99)) fun v101 =>
 carrackref23_Put_k89 R v101 v95 h100)
 (popO (SemE PG h49 (binS BinOp.eql T_int (.tmp 32) (.const (Value.int IntKind.i64 3)) v51 (Value.int IntKind.i64 3))) fun v102 =>
 condV v102
 (carrackref23_Put_k103 R (Value.pointer (some ⟨r1, 0, none⟩)) v35 (Value.bool true) (Value.pointer (some ⟨r42, 0, none⟩)) (Value.pointer (some ⟨r44, 0, none⟩)) v51 v102 h49)
 (popO (SemE PG h49 (binS BinOp.eql T_int (.tmp 32) (.const (Value.int IntKind.i64 4)) v51 (Value.int IntKind.i64 4))) fun v277 =>
 condV v277
 (carrackref23_Put_k103 R (Value.pointer (some ⟨r1, 0, none⟩)) v35 (Value.bool true) (Value.pointer (some ⟨r42, 0, none⟩)) (Value.pointer (some ⟨r44, 0, none⟩)) v51 v277 h49)
 (popO (SemE PG h49 (binS BinOp.eql T_int (.tmp 32) (.const (Value.int IntKind.i64 5)) v51 (Value.int IntKind.i64 5))) fun v278 =>
 condV v278
 (carrackref23_Put_k103 R (Value.pointer (some ⟨r1, 0, none⟩)) v35 (Value.bool true) (Value.pointer (some ⟨r42, 0, none⟩)) (Value.pointer (some ⟨r44, 0, none⟩)) v51 v278 h49)
 (popO (SemE PG h49 (binS BinOp.eql T_int (.tmp 32) (.const (Value.int IntKind.i64 7)) v51 (Value.int IntKind.i64 7))) fun v279 =>
 carrackref23_Put_k103 R (Value.pointer (some ⟨r1, 0, none⟩)) v35 (Value.bool true) (Value.pointer (some ⟨r42, 0, none⟩)) (Value.pointer (some ⟨r44, 0, none⟩)) v51 v279 h49))))))))
def carrackref23_Put.ann : Ann := { b := fun i => match i with | 5 => #[0, 1, 0, 4, 12, 0, 0, 99, 255] | 9 => #[0, 0, 2, 6, 15, 0, 32, 110, 255, 0, 512, 1774, 4095, 8191] | 21 => #[0, 0, 2, 6, 15, 0, 32, 110, 255, 0, 512, 1774, 4095, 0, 8192, 28398, 65535, 0, 131072, 454382, 1048575, 0, 2097152, 7270126, 16777215, 0, 33554432, 116322030, 268435455, 0, 536870912, 1861152494, 4294967295, 8589934591] | _ => #[], ord := fun i => match i with | 5 => [0, 1, 2, 3, 4, 5, 6, 7, 8] | 9 => [0, 1, 2, 5, 6, 9, 10, 3, 4, 7, 8, 11, 12, 13] | 21 => [0, 1, 2, 5, 6, 9, 10, 13, 14, 17, 18, 21, 22, 25, 26, 29, 30, 3, 4, 7, 8, 11, 12, 15, 16, 19, 20, 23, 24, 27, 28, 31, 32, 33] | _ => [], keep := fun i => match i with | 26 => [1, 4, 5, 8] | _ => [] }
theorem carrackref23_Put.eq (t0 : Value) (h0 : PH) (R : Value → PH → Prop) : codeF PG carrackref23_Put.ann 200 (bodyOf Try.f15) (endH PG Try.f15 R) (fun t => (#[t0] : Array Value).getD t undef) h0 = carrackref23_Put t0 h0 R := by kernel_rfl
theorem carrackref23_Put.call {t0 : Value} {h0 : PH} {R : Value → PH → Prop} (H : carrackref23_Put t0 h0 R) : CallsH PG id_carrackref23_Put #[t0] h0 R :=
  callsF_by carrackref23_Put.ann 200 mix Try.func15 (by kernel_rfl) (by kernel_rfl) (by kernel_rfl) (by kernel_rfl) (by simp [Try.ntmps15]) (carrackref23_Put.eq t0 h0 R) H

def carrackref23_rest_k16 (R : Value → PH → Prop) (t1 : Value) (h0 : PH) : Prop :=
 popO (SemP PG (Instr.fieldAt T_api_Act t1 1)) fun v17 =>
 popO (SemE PG h0 (Instr.loadAt T_int v17)) fun v18 =>
 popO (SemE PG h0 (binS BinOp.eql T_int (.tmp 27) (.const (Value.int IntKind.i64 0)) v18 (Value.int IntKind.i64 0))) fun v19 =>
 gopV (yV v19) true (fun k22 => popO (SemP PG (Instr.fieldAt T_api_Act t1 2)) fun v23 => k22 v23 h0) h0 fun v20 h21 =>
 gopV (yV v19) true (fun k26 => popO (SemE PG h21 (Instr.loadAt T_uint64 v20)) fun v27 => k26 v27 h21) h21 fun v24 h25 =>
 gopV (yV v19) true (fun k30 => popO (SemE PG h25 (binS BinOp.eql T_uint64 (.tmp 31) (.const (Value.int IntKind.u64 0)) v24 (Value.int IntKind.u64 0))) fun v31 => k30 v31 h25) h25 fun v28 h29 =>
 popO (pickV v19 v28 (Value.bool false)) fun v32 =>
 gopV (yV v32) true (fun k35 => popO (SemP PG (Instr.fieldAt T_api_Act t1 3)) fun v36 => k35 v36 h29) h29 fun v33 h34 =>
 gopV (yV v32) true (fun k39 => popO (SemE PG h34 (Instr.loadAt T_string v33)) fun v40 => k39 v40 h34) h34 fun v37 h38 =>
 gopV (yV v32) true (fun k43 => popO (SemE PG h38 (binS BinOp.eql T_string (.tmp 36) (.const (Value.string { data := #[] })) v37 (Value.string { data := #[] }))) fun v44 => k43 v44 h38) h38 fun v41 h42 =>
 popO (pickV v32 v41 (Value.bool false)) fun v45 =>
 gopV (yV v45) true (fun k48 => popO (SemP PG (Instr.fieldAt T_api_Act t1 4)) fun v49 => k48 v49 h42) h42 fun v46 h47 =>
 gopV (yV v45) true (fun k52 => popO (SemE PG h47 (Instr.loadAt T_int v46)) fun v53 => k52 v53 h47) h47 fun v50 h51 =>
 gopV (yV v45) true (fun k56 => popO (SemE PG h51 (binS BinOp.eql T_int (.tmp 41) (.const (Value.int IntKind.i64 0)) v50 (Value.int IntKind.i64 0))) fun v57 => k56 v57 h51) h51 fun v54 h55 =>
 popO (pickV v45 v54 (Value.bool false)) fun v58 =>
 gopV (yV v58) true (fun k61 => popO (SemP PG (Instr.fieldAt T_api_Act t1 5)) fun v62 => k61 v62 h55) h55 fun v59 h60 =>
 gopV (yV v58) true (fun k65 => popO (SemE PG h60 (Instr.loadAt T_api_Message v59)) fun v66 => k65 v66 h60) h60 fun v63 h64 =>
 gopV (yV v58) true (fun k69 => popO (SemP PG (Instr.build T_api_Message #[])) fun v70 => k69 v70 h64) h64 fun v67 h68 =>
 gopV (yV v58) true (fun k73 => popO (SemE PG h68 (binS BinOp.eql T_api_Message (.tmp 46) (.tmp 47) v63 v67)) fun v74 => k73 v74 h68) h68 fun v71 h72 =>
 popO (pickV v58 v71 (Value.bool false)) fun v75 =>
 gopV (yV v75) true (fun k78 => popO (SemP PG (Instr.fieldAt T_api_Act t1 6)) fun v79 => k78 v79 h72) h72 fun v76 h77 =>
 gopV (yV v75) true (fun k82 => popO (SemE PG h77 (Instr.loadAt T_sl_api_Write v76)) fun v83 => k82 v83 h77) h77 fun v80 h81 =>
 gopV (yV v75) true (fun k86 => popO (SemP PG (Builtin.len_ #[T_sl_api_Write] T_int #[v80])) fun v87 => k86 v87 h81) h81 fun v84 h85 =>
 gopV (yV v75) true (fun k90 => popO (SemE PG h85 (binS BinOp.eql T_int (.tmp 53) (.const (Value.int IntKind.i64 0)) v84 (Value.int IntKind.i64 0))) fun v91 => k90 v91 h85) h85 fun v88 h89 =>
 popO (pickV v75 v88 (Value.bool false)) fun v92 =>
 R v92 h89
def carrackref23_rest_k15 (R : Value → PH → Prop) (t1 : Value) (h0 : PH) : Prop :=
 carrackref23_rest_k16 R t1 h0
def carrackref23_rest_k98 (R : Value → PH → Prop) (t1 : Value) (t4 : Value) (t13 : Value) (h0 : PH) : Prop :=
 condV t13
 (popO (SemP PG (Instr.fieldAt T_api_Act t1 4)) fun v99 =>
 SemH PG (storeS T_int v99 (Value.int IntKind.i64 0)) h0 fun v100 h101 =>
 carrackref23_rest_k15 R t1 h101)
 (popO (SemE PG h0 (binS BinOp.eql T_int (.tmp 4) (.const (Value.int IntKind.i64 6)) t4 (Value.int IntKind.i64 6))) fun v102 =>
 condV v102
 (popO (SemP PG (Instr.build T_api_Message #[])) fun v103 =>
 popO (SemP PG (Instr.fieldAt T_api_Act t1 5)) fun v104 =>
 SemH PG (storeS T_api_Message v104 v103) h0 fun v105 h106 =>
 carrackref23_rest_k15 R t1 h106)
 (popO (SemE PG h0 (binS BinOp.eql T_int (.tmp 4) (.const (Value.int IntKind.i64 8)) t4 (Value.int IntKind.i64 8))) fun v107 =>
 condV v107
 (popO (SemP PG (Instr.fieldAt T_api_Act t1 6)) fun v108 =>
 SemH PG (storeS T_sl_api_Write v108 (Value.slice none 0 0)) h0 fun v109 h110 =>
 carrackref23_rest_k15 R t1 h110)
 (carrackref23_rest_k15 R t1 h0)))
def carrackref23_rest (t0 : Value) (h0 : PH) (R : Value → PH → Prop) : Prop :=
 ∀ r1, h0 r1 = none → bindH (PH.set h0 r1 (.cells (Value.cells t0) T_api_Act)) fun h2 =>
 popO (SemP PG (Instr.fieldAt T_api_Act (Value.pointer (some ⟨r1, 0, none⟩)) 0)) fun v3 =>
 popO (SemE PG h2 (Instr.loadAt T_int v3)) fun v4 =>
 popO (SemE PG h2 (binS BinOp.eql T_int (.tmp 4) (.const (Value.int IntKind.i64 0)) v4 (Value.int IntKind.i64 0))) fun v5 =>
 condV v5
 (popO (SemP PG (Instr.fieldAt T_api_Act (Value.pointer (some ⟨r1, 0, none⟩)) 1)) fun v6 =>
 SemH PG (storeS T_int v6 (Value.int IntKind.i64 0)) h2 fun v7 h8 =>
 popO (SemP PG (Instr.fieldAt T_api_Act (Value.pointer (some ⟨r1, 0, none⟩)) 2)) fun v9 =>
 SemH PG (storeS T_uint64 v9 (Value.int IntKind.u64 0)) h8 fun v10 h11 =>
 popO (SemP PG (Instr.fieldAt T_api_Act (Value.pointer (some ⟨r1, 0, none⟩)) 3)) fun v12 =>
 SemH PG (storeS T_string v12 (Value.string { data := #[] })) h11 fun v13 h14 =>
 carrackref23_rest_k15 R (Value.pointer (some ⟨r1, 0, none⟩)) h14)
 (popO (SemE PG h2 (binS BinOp.eql T_int (.tmp 4) (.const (Value.int IntKind.i64 1)) v4 (Value.int IntKind.i64 1))) fun v93 =>
 condV v93
 (popO (SemP PG (Instr.fieldAt T_api_Act (Value.pointer (some ⟨r1, 0, none⟩)) 1)) fun v94 =>
 SemH PG (storeS T_int v94 (Value.int IntKind.i64 0)) h2 fun v95 h96 =>
 carrackref23_rest_k15 R (Value.pointer (some ⟨r1, 0, none⟩)) h96)
 (popO (SemE PG h2 (binS BinOp.eql T_int (.tmp 4) (.const (Value.int IntKind.i64 3)) v4 (Value.int IntKind.i64 3))) fun v97 =>
 condV v97
 (carrackref23_rest_k98 R (Value.pointer (some ⟨r1, 0, none⟩)) v4 v97 h2)
 (popO (SemE PG h2 (binS BinOp.eql T_int (.tmp 4) (.const (Value.int IntKind.i64 4)) v4 (Value.int IntKind.i64 4))) fun v111 =>
 condV v111
 (carrackref23_rest_k98 R (Value.pointer (some ⟨r1, 0, none⟩)) v4 v111 h2)
 (popO (SemE PG h2 (binS BinOp.eql T_int (.tmp 4) (.const (Value.int IntKind.i64 5)) v4 (Value.int IntKind.i64 5))) fun v112 =>
 condV v112
 (carrackref23_rest_k98 R (Value.pointer (some ⟨r1, 0, none⟩)) v4 v112 h2)
 (popO (SemE PG h2 (binS BinOp.eql T_int (.tmp 4) (.const (Value.int IntKind.i64 7)) v4 (Value.int IntKind.i64 7))) fun v113 =>
 carrackref23_rest_k98 R (Value.pointer (some ⟨r1, 0, none⟩)) v4 v113 h2)))))
def carrackref23_rest.ann : Ann := { b := fun i => match i with  | _ => #[], ord := fun i => match i with  | _ => [], keep := fun i => match i with  | _ => [] }
theorem carrackref23_rest.eq (t0 : Value) (h0 : PH) (R : Value → PH → Prop) : codeF PG carrackref23_rest.ann 200 (bodyOf Try.f36) (endH PG Try.f36 R) (fun t => (#[t0] : Array Value).getD t undef) h0 = carrackref23_rest t0 h0 R := by kernel_rfl
theorem carrackref23_rest.call {t0 : Value} {h0 : PH} {R : Value → PH → Prop} (H : carrackref23_rest t0 h0 R) : CallsH PG id_carrackref23_rest #[t0] h0 R :=
  callsF_by carrackref23_rest.ann 200 mix Try.func36 (by kernel_rfl) (by kernel_rfl) (by kernel_rfl) (by kernel_rfl) (by simp [Try.ntmps36]) (carrackref23_rest.eq t0 h0 R) H

def carrackref23_num (t0 : Value) (t1 : Value) (h0 : PH) (R : Value → PH → Prop) : Prop :=
 popO (SemP PG (convert T_int T_uint64 t0)) fun v1 =>
 CallsH PG id_carrackref03_Bytes #[v1, t1] h0 fun v2 h3 =>
 R v2 h3
def carrackref23_num.ann : Ann := { b := fun i => match i with  | _ => #[], ord := fun i => match i with  | _ => [], keep := fun i => match i with  | _ => [] }
theorem carrackref23_num.eq (t0 : Value) (t1 : Value) (h0 : PH) (R : Value → PH → Prop) : codeF PG carrackref23_num.ann 200 (bodyOf Try.f37) (endH PG Try.f37 R) (fun t => (#[t0, t1] : Array Value).getD t undef) h0 = carrackref23_num t0 t1 h0 R := by kernel_rfl
theorem carrackref23_num.call {t0 : Value} {t1 : Value} {h0 : PH} {R : Value → PH → Prop} (H : carrackref23_num t0 t1 h0 R) : CallsH PG id_carrackref23_num #[t0, t1] h0 R :=
  callsF_by carrackref23_num.ann 200 mix Try.func37 (by kernel_rfl) (by kernel_rfl) (by kernel_rfl) (by kernel_rfl) (by simp [Try.ntmps37]) (carrackref23_num.eq t0 t1 h0 R) H

def carrackref03_Bytes_b2 (R : Value → PH → Prop) (n1 : List Value → PH → Prop) (t0 : Value) (t1 : Value) (t5 : Value) (t6 : Value) (h0 : PH) : Prop :=
 popO (SemP PG (binOp BinOp.lss T_int t6 t1)) fun v3 =>
 condV v3
 (popO (SemP PG (binOp BinOp.rem T_uint64 t0 (Value.int IntKind.u64 256))) fun v4 =>
 popO (SemP PG (convert T_uint64 T_uint8 v4)) fun v5 =>
 popO (SemA PG (Instr.buildSlice T_sl_uint8 1 #[(0, v5)])) fun x7 => ∀ r6, h0 r6 = none → popO (SemP PG (x7.2 r6)) fun v8 => bindH (PH.set h0 r6 x7.1) fun h9 =>
 popO (SemE PG h9 (convert T_sl_uint8 T_string v8)) fun v10 =>
 popO (SemP PG (binOp BinOp.add T_string v10 t5)) fun v11 =>
 popO (SemP PG (binOp BinOp.quo T_uint64 t0 (Value.int IntKind.u64 256))) fun v12 =>
 popO (SemP PG (binOp BinOp.add T_int t6 (Value.int IntKind.i64 1))) fun v13 =>
 n1 [v12, t1, v11, v13] h9)
 (R t5 h0)
def carrackref03_Bytes (t0 : Value) (t1 : Value) (h0 : PH) (R : Value → PH → Prop) : Prop :=
 LoopL [0, 1, 5, 6] (fun n1 ρ h => carrackref03_Bytes_b2 R n1 (ρ 0) (ρ 1) (ρ 5) (ρ 6) h) [t0, t1, (Value.string { data := #[] }), (Value.int IntKind.i64 0)] h0
def carrackref03_Bytes.ann : Ann := { b := fun i => match i with  | _ => #[], ord := fun i => match i with  | _ => [], keep := fun i => match i with | 3 => [0, 1, 5, 6] | _ => [] }
theorem carrackref03_Bytes.eq (t0 : Value) (t1 : Value) (h0 : PH) (R : Value → PH → Prop) : codeF PG carrackref03_Bytes.ann 200 (bodyOf Try.f39) (endH PG Try.f39 R) (fun t => (#[t0, t1] : Array Value).getD t undef) h0 = carrackref03_Bytes t0 t1 h0 R := by kernel_rfl
theorem carrackref03_Bytes.call {t0 : Value} {t1 : Value} {h0 : PH} {R : Value → PH → Prop} (H : carrackref03_Bytes t0 t1 h0 R) : CallsH PG id_carrackref03_Bytes #[t0, t1] h0 R :=
  callsF_by carrackref03_Bytes.ann 200 mix Try.func39 (by kernel_rfl) (by kernel_rfl) (by kernel_rfl) (by kernel_rfl) (by simp [Try.ntmps39]) (carrackref03_Bytes.eq t0 t1 h0 R) H

def carrackref23_fits (t0 : Value) (t1 : Value) (h0 : PH) (R : Value → PH → Prop) : Prop :=
 popO (SemE PG h0 (binS BinOp.eql T_int (.tmp 5) (.const (Value.int IntKind.i64 1)) t1 (Value.int IntKind.i64 1))) fun v1 =>
 condV v1
 (popO (SemP PG (binOp BinOp.geq T_int t0 (Value.int IntKind.i64 0))) fun v2 =>
 gopV (yV v2) true (fun k5 => k5 t0 h0) h0 fun v3 h4 =>
 gopV (yV v2) true (fun k8 => popO (SemP PG (binOp BinOp.leq T_int v3 (Value.int IntKind.i64 255))) fun v9 => k8 v9 h4) h4 fun v6 h7 =>
 popO (pickV v2 v6 (Value.bool false)) fun v10 =>
 R v10 h7)
 (popO (SemP PG (binOp BinOp.geq T_int t0 (Value.int IntKind.i64 0))) fun v11 =>
 gopV (yV v11) true (fun k14 => k14 t0 h0) h0 fun v12 h13 =>
 gopV (yV v11) true (fun k17 => popO (SemP PG (binOp BinOp.leq T_int v12 (Value.int IntKind.i64 65535))) fun v18 => k17 v18 h13) h13 fun v15 h16 =>
 popO (pickV v11 v15 (Value.bool false)) fun v19 =>
 R v19 h16)
def carrackref23_fits.ann : Ann := { b := fun i => match i with  | _ => #[], ord := fun i => match i with  | _ => [], keep := fun i => match i with  | _ => [] }
theorem carrackref23_fits.eq (t0 : Value) (t1 : Value) (h0 : PH) (R : Value → PH → Prop) : codeF PG carrackref23_fits.ann 200 (bodyOf Try.f38) (endH PG Try.f38 R) (fun t => (#[t0, t1] : Array Value).getD t undef) h0 = carrackref23_fits t0 t1 h0 R := by kernel_rfl
theorem carrackref23_fits.call {t0 : Value} {t1 : Value} {h0 : PH} {R : Value → PH → Prop} (H : carrackref23_fits t0 t1 h0 R) : CallsH PG id_carrackref23_fits #[t0, t1] h0 R :=
  callsF_by carrackref23_fits.ann 200 mix Try.func38 (by kernel_rfl) (by kernel_rfl) (by kernel_rfl) (by kernel_rfl) (by simp [Try.ntmps38]) (carrackref23_fits.eq t0 t1 h0 R) H

def carrackref23_text (t0 : Value) (h0 : PH) (R : Value → PH → Prop) : Prop :=
 popO (SemP PG (Builtin.len_ #[T_string] T_int #[t0])) fun v1 =>
 CallsH PG id_carrackref23_num #[v1, (Value.int IntKind.i64 2)] h0 fun v2 h3 =>
 popO (SemP PG (binOp BinOp.add T_string v2 t0)) fun v4 =>
 R v4 h3
def carrackref23_text.ann : Ann := { b := fun i => match i with  | _ => #[], ord := fun i => match i with  | _ => [], keep := fun i => match i with  | _ => [] }
theorem carrackref23_text.eq (t0 : Value) (h0 : PH) (R : Value → PH → Prop) : codeF PG carrackref23_text.ann 200 (bodyOf Try.f40) (endH PG Try.f40 R) (fun t => (#[t0] : Array Value).getD t undef) h0 = carrackref23_text t0 h0 R := by kernel_rfl
theorem carrackref23_text.call {t0 : Value} {h0 : PH} {R : Value → PH → Prop} (H : carrackref23_text t0 h0 R) : CallsH PG id_carrackref23_text #[t0] h0 R :=
  callsF_by carrackref23_text.ann 200 mix Try.func40 (by kernel_rfl) (by kernel_rfl) (by kernel_rfl) (by kernel_rfl) (by simp [Try.ntmps40]) (carrackref23_text.eq t0 h0 R) H

def carrackref23_PutConfig (t0 : Value) (h0 : PH) (R : Value → PH → Prop) : Prop :=
 ∀ r1, h0 r1 = none → bindH (PH.set h0 r1 (.cells (Value.cells t0) T_api_Config)) fun h2 =>
 popO (SemP PG (Instr.fieldAt T_api_Config (Value.pointer (some ⟨r1, 0, none⟩)) 2)) fun v3 =>
 popO (SemE PG h2 (Instr.loadAt T_int v3)) fun v4 =>
 CallsH PG id_carrackref23_fits #[v4, (Value.int IntKind.i64 1)] h2 fun v5 h6 =>
 popO (SemP PG (Op.unary UnOp.not v5)) fun v7 =>
 gopV (yV v7) false (fun k10 => popO (SemP PG (Instr.fieldAt T_api_Config (Value.pointer (some ⟨r1, 0, none⟩)) 3)) fun v11 => k10 v11 h6) h6 fun v8 h9 =>
 gopV (yV v7) false (fun k14 => popO (SemE PG h9 (Instr.loadAt T_int v8)) fun v15 => k14 v15 h9) h9 fun v12 h13 =>
 gopV (yV v7) false (fun k18 => CallsH PG id_carrackref23_fits #[v12, (Value.int IntKind.i64 1)] h13 fun v19 h20 => k18 v19 h20) h13 fun v16 h17 =>
 gopV (yV v7) false (fun k23 => popO (SemP PG (Op.unary UnOp.not v16)) fun v24 => k23 v24 h17) h17 fun v21 h22 =>
 popO (pickV v7 (Value.bool true) v21) fun v25 =>
 gopV (yV v25) false (fun k28 => popO (SemP PG (Instr.fieldAt T_api_Config (Value.pointer (some ⟨r1, 0, none⟩)) 4)) fun v29 => k28 v29 h22) h22 fun v26 h27 =>
 gopV (yV v25) false (fun k32 => popO (SemE PG h27 (Instr.loadAt T_int v26)) fun v33 => k32 v33 h27) h27 fun v30 h31 =>
 gopV (yV v25) false (fun k36 => CallsH PG id_carrackref23_fits #[v30, (Value.int IntKind.i64 1)] h31 fun v37 h38 => k36 v37 h38) h31 fun v34 h35 =>
 gopV (yV v25) false (fun k41 => popO (SemP PG (Op.unary UnOp.not v34)) fun v42 => k41 v42 h35) h35 fun v39 h40 =>
 popO (pickV v25 (Value.bool true) v39) fun v43 =>
 gopV (yV v43) false (fun k46 => popO (SemP PG (Instr.fieldAt T_api_Config (Value.pointer (some ⟨r1, 0, none⟩)) 0)) fun v47 => k46 v47 h40) h40 fun v44 h45 =>
 gopV (yV v43) false (fun k50 => popO (SemE PG h45 (Instr.loadAt T_int v44)) fun v51 => k50 v51 h45) h45 fun v48 h49 =>
 gopV (yV v43) false (fun k54 => CallsH PG id_carrackref23_fits #[v48, (Value.int IntKind.i64 2)] h49 fun v55 h56 => k54 v55 h56) h49 fun v52 h53 =>
 gopV (yV v43) false (fun k59 => popO (SemP PG (Op.unary UnOp.not v52)) fun v60 => k59 v60 h53) h53 fun v57 h58 =>
 popO (pickV v43 (Value.bool true) v57) fun v61 =>
 gopV (yV v61) false (fun k64 => popO (SemP PG (Instr.fieldAt T_api_Config (Value.pointer (some ⟨r1, 0, none⟩)) 1)) fun v65 => k64 v65 h58) h58 fun v62 h63 =>
 gopV (yV v61) false (fun k68 => popO (SemE PG h63 (Instr.loadAt T_int v62)) fun v69 => k68 v69 h63) h63 fun v66 h67 =>
 gopV (yV v61) false (fun k72 => CallsH PG id_carrackref23_fits #[v66, (Value.int IntKind.i64 2)] h67 fun v73 h74 => k72 v73 h74) h67 fun v70 h71 =>
 gopV (yV v61) false (fun k77 => popO (SemP PG (Op.unary UnOp.not v70)) fun v78 => k77 v78 h71) h71 fun v75 h76 =>
 popO (pickV v61 (Value.bool true) v75) fun v79 =>
 condV v79
 (R (Value.tuple #[(Value.string { data := #[] }), (Value.int IntKind.i64 1)]) h76)
 (popO (SemP PG (Instr.fieldAt T_api_Config (Value.pointer (some ⟨r1, 0, none⟩)) 2)) fun v80 =>
 popO (SemE PG h76 (Instr.loadAt T_int v80)) fun v81 =>
 popO (SemP PG (Instr.fieldAt T_api_Config (Value.pointer (some ⟨r1, 0, none⟩)) 3)) fun v82 =>
 popO (SemE PG h76 (Instr.loadAt T_int v82)) fun v83 =>
 popO (SemP PG (Instr.fieldAt T_api_Config (Value.pointer (some ⟨r1, 0, none⟩)) 4)) fun v84 =>
 popO (SemE PG h76 (Instr.loadAt T_int v84)) fun v85 =>
 popO (SemP PG (Instr.fieldAt T_api_Config (Value.pointer (some ⟨r1, 0, none⟩)) 0)) fun v86 =>
 popO (SemE PG h76 (Instr.loadAt T_int v86)) fun v87 =>
 popO (SemP PG (Instr.fieldAt T_api_Config (Value.pointer (some ⟨r1, 0, none⟩)) 1)) fun v88 =>
 popO (SemE PG h76 (Instr.loadAt T_int v88)) fun v89 =>
 popO (SemP PG (Instr.fieldAt T_api_Config (Value.pointer (some ⟨r1, 0, none⟩)) 5)) fun v90 =>
 popO (SemP PG (Instr.indexAt T_2_uint64 v90 (Value.int IntKind.i64 0))) fun v91 =>
 popO (SemE PG h76 (Instr.loadAt T_uint64 v91)) fun v92 =>
 popO (SemP PG (Instr.fieldAt T_api_Config (Value.pointer (some ⟨r1, 0, none⟩)) 5)) fun v93 =>
 popO (SemP PG (Instr.indexAt T_2_uint64 v93 (Value.int IntKind.i64 1))) fun v94 =>
 popO (SemE PG h76 (Instr.loadAt T_uint64 v94)) fun v95 =>
 popO (SemP PG (Instr.fieldAt T_api_Config (Value.pointer (some ⟨r1, 0, none⟩)) 6)) fun v96 =>
 popO (SemP PG (Instr.indexAt T_2_uint64 v96 (Value.int IntKind.i64 0))) fun v97 =>
 popO (SemE PG h76 (Instr.loadAt T_uint64 v97)) fun v98 =>
 popO (SemP PG (Instr.fieldAt T_api_Config (Value.pointer (some ⟨r1, 0, none⟩)) 6)) fun v99 =>
 popO (SemP PG (Instr.indexAt T_2_uint64 v99 (Value.int IntKind.i64 1))) fun v100 =>
 popO (SemE PG h76 (Instr.loadAt T_uint64 v100)) fun v101 =>
 CallsH PG id_carrackref23_num #[v81, (Value.int IntKind.i64 1)] h76 fun v102 h103 =>
 SemE PG h103 (Instr.loadAt T_uint64 v100) = some v101 ∧ SemE PG h103 (Instr.loadAt T_uint64 v97) = some v98 ∧ SemE PG h103 (Instr.loadAt T_uint64 v94) = some v95 ∧ SemE PG h103 (Instr.loadAt T_uint64 v91) = some v92 ∧ SemE PG h103 (Instr.loadAt T_int v88) = some v89 ∧ SemE PG h103 (Instr.loadAt T_int v86) = some v87 ∧ SemE PG h103 (Instr.loadAt T_int v84) = some v85 ∧ SemE PG h103 (Instr.loadAt T_int v82) = some v83 ∧ (CallsH PG id_carrackref23_num #[v83, (Value.int IntKind.i64 1)] h103 fun v104 h105 =>
 SemE PG h105 (Instr.loadAt T_uint64 v100) = some v101 ∧ SemE PG h105 (Instr.loadAt T_uint64 v97) = some v98 ∧ SemE PG h105 (Instr.loadAt T_uint64 v94) = some v95 ∧ SemE PG h105 (Instr.loadAt T_uint64 v91) = some v92 ∧ SemE PG h105 (Instr.loadAt T_int v88) = some v89 ∧ SemE PG h105 (Instr.loadAt T_int v86) = some v87 ∧ SemE PG h105 (Instr.loadAt T_int v84) = some v85 ∧ (popO (SemP PG (binOp BinOp.add T_string v102 v104)) fun v106 =>
 CallsH PG id_carrackref23_num #[v85, (Value.int IntKind.i64 1)] h105 fun v107 h108 =>
 SemE PG h108 (Instr.loadAt T_uint64 v100) = some v101 ∧ SemE PG h108 (Instr.loadAt T_uint64 v97) = some v98 ∧ SemE PG h108 (Instr.loadAt T_uint64 v94) = some v95 ∧ SemE PG h108 (Instr.loadAt T_uint64 v91) = some v92 ∧ SemE PG h108 (Instr.loadAt T_int v88) = some v89 ∧ SemE PG h108 (Instr.loadAt T_int v86) = some v87 ∧ (popO (SemP PG (binOp BinOp.add T_string v106 v107)) fun v109 =>
 CallsH PG id_carrackref23_num #[v87, (Value.int IntKind.i64 2)] h108 fun v110 h111 =>
 SemE PG h111 (Instr.loadAt T_uint64 v100) = some v101 ∧ SemE PG h111 (Instr.loadAt T_uint64 v97) = some v98 ∧ SemE PG h111 (Instr.loadAt T_uint64 v94) = some v95 ∧ SemE PG h111 (Instr.loadAt T_uint64 v91) = some v92 ∧ SemE PG h111 (Instr.loadAt T_int v88) = some v89 ∧ (popO (SemP PG (binOp BinOp.add T_string v109 v110)) fun v112 =>
 CallsH PG id_carrackref23_num #[v89, (Value.int IntKind.i64 2)] h111 fun v113 h114 =>
 SemE PG h114 (Instr.loadAt T_uint64 v100) = some v101 ∧ SemE PG h114 (Instr.loadAt T_uint64 v97) = some v98 ∧ SemE PG h114 (Instr.loadAt T_uint64 v94) = some v95 ∧ SemE PG h114 (Instr.loadAt T_uint64 v91) = some v92 ∧ (popO (SemP PG (binOp BinOp.add T_string v112 v113)) fun v115 =>
 CallsH PG id_carrackref03_Bytes #[v92, (Value.int IntKind.i64 8)] h114 fun v116 h117 =>
 SemE PG h117 (Instr.loadAt T_uint64 v100) = some v101 ∧ SemE PG h117 (Instr.loadAt T_uint64 v97) = some v98 ∧ SemE PG h117 (Instr.loadAt T_uint64 v94) = some v95 ∧ (popO (SemP PG (binOp BinOp.add T_string v115 v116)) fun v118 =>
 CallsH PG id_carrackref03_Bytes #[v95, (Value.int IntKind.i64 8)] h117 fun v119 h120 =>
 SemE PG h120 (Instr.loadAt T_uint64 v100) = some v101 ∧ SemE PG h120 (Instr.loadAt T_uint64 v97) = some v98 ∧ (popO (SemP PG (binOp BinOp.add T_string v118 v119)) fun v121 =>
 CallsH PG id_carrackref03_Bytes #[v98, (Value.int IntKind.i64 8)] h120 fun v122 h123 =>
 SemE PG h123 (Instr.loadAt T_uint64 v100) = some v101 ∧ (popO (SemP PG (binOp BinOp.add T_string v121 v122)) fun v124 =>
 CallsH PG id_carrackref03_Bytes #[v101, (Value.int IntKind.i64 8)] h123 fun v125 h126 =>
 (popO (SemP PG (binOp BinOp.add T_string v124 v125)) fun v127 =>
 R (Value.tuple #[v127, (Value.int IntKind.i64 0)]) h126))))))))))
def carrackref23_PutConfig.ann : Ann := { b := fun i => match i with | 3 => #[0, 1, 3, 0, 8, 31, 63, 0, 128, 447, 1023, 0, 2048, 7103, 16383, 0, 32768, 113599, 262143, 0, 524288, 1572864, 3914687, 8388607, 0, 16777216, 50331648, 125549503, 268435455, 0, 536870912, 1610612736, 4017863615, 8589934591, 0, 17179869184, 51539607552, 128571915199, 274877906943, 549755813887, 1099511627775] | _ => #[], ord := fun i => match i with | 3 => [0, 1, 3, 4, 7, 8, 11, 12, 15, 16, 19, 20, 21, 24, 25, 26, 29, 30, 31, 34, 35, 36, 2, 5, 6, 9, 10, 13, 14, 17, 18, 22, 23, 27, 28, 32, 33, 37, 38, 39, 40] | _ => [], keep := fun i => match i with  | _ => [] }
theorem carrackref23_PutConfig.eq (t0 : Value) (h0 : PH) (R : Value → PH → Prop) : codeF PG carrackref23_PutConfig.ann 200 (bodyOf Try.f16) (endH PG Try.f16 R) (fun t => (#[t0] : Array Value).getD t undef) h0 = carrackref23_PutConfig t0 h0 R := by kernel_rfl
theorem carrackref23_PutConfig.call {t0 : Value} {h0 : PH} {R : Value → PH → Prop} (H : carrackref23_PutConfig t0 h0 R) : CallsH PG id_carrackref23_PutConfig #[t0] h0 R :=
  callsF_by carrackref23_PutConfig.ann 200 mix Try.func16 (by kernel_rfl) (by kernel_rfl) (by kernel_rfl) (by kernel_rfl) (by simp [Try.ntmps16]) (carrackref23_PutConfig.eq t0 h0 R) H

def script_Bytes_b38 (R : Value → PH → Prop) (n4 : List Value → PH → Prop) (n37 : List Value → PH → Prop) (t3 : Value) (t11 : Value) (t12 : Value) (t13 : Value) (t37 : Value) (t38 : Value) (t39 : Value) (h0 : PH) : Prop :=
 popO (SemP PG (binOp BinOp.lss T_int t39 t38)) fun v39 =>
 condV v39
 (popO (SemP PG (Instr.indexAt T_sl_api_Errno t37 t39)) fun v40 =>
 popO (SemE PG h0 (Instr.loadAt T_api_Errno v40)) fun v41 =>
 popO (SemP PG (binOp BinOp.and T_int v41 (Value.int IntKind.i64 255))) fun v42 =>
 CallsH PG id_wire_Writer_Byte #[t3, v42] h0 fun v43 h44 =>
 popO (SemP PG (binOp BinOp.add T_int t39 (Value.int IntKind.i64 1))) fun v45 =>
 n37 [t3, t11, t12, t13, t37, t38, v45] h44)
 (popO (SemP PG (binOp BinOp.add T_int t13 (Value.int IntKind.i64 1))) fun v46 =>
 n4 [t3, t11, t12, v46] h0)
def script_Bytes_b5 (R : Value → PH → Prop) (n4 : List Value → PH → Prop) (t3 : Value) (t11 : Value) (t12 : Value) (t13 : Value) (h0 : PH) : Prop :=
 popO (SemP PG (binOp BinOp.lss T_int t13 t12)) fun v6 =>
 condV v6
 (popO (SemP PG (Instr.indexAt T_sl_api_Reply t11 t13)) fun v7 =>
 popO (SemE PG h0 (Instr.loadAt T_api_Reply v7)) fun v8 =>
 ∀ r9, h0 r9 = none → bindH (PH.set h0 r9 (.cells (zcells PG T_api_Reply) T_api_Reply)) fun h10 =>
 SemH PG (storeS T_api_Reply (Value.pointer (some ⟨r9, 0, none⟩)) v8) h10 fun v11 h12 =>
 popO (SemP PG (Instr.fieldAt T_api_Reply (Value.pointer (some ⟨r9, 0, none⟩)) 0)) fun v13 =>
 popO (SemE PG h12 (Instr.loadAt T_api_Errno v13)) fun v14 =>
 popO (SemP PG (binOp BinOp.and T_int v14 (Value.int IntKind.i64 255))) fun v15 =>
 CallsH PG id_wire_Writer_Byte #[t3, v15] h12 fun v16 h17 =>
 popO (SemP PG (Instr.fieldAt T_api_Reply (Value.pointer (some ⟨r9, 0, none⟩)) 1)) fun v18 =>
 popO (SemE PG h17 (Instr.loadAt T_uint64 v18)) fun v19 =>
 CallsH PG id_wire_Writer_Number #[t3, v19] h17 fun v20 h21 =>
 popO (SemP PG (Instr.fieldAt T_api_Reply (Value.pointer (some ⟨r9, 0, none⟩)) 2)) fun v22 =>
 popO (SemE PG h21 (Instr.loadAt T_int v22)) fun v23 =>
 popO (SemP PG (binOp BinOp.and T_int v23 (Value.int IntKind.i64 65535))) fun v24 =>
 CallsH PG id_script_two #[t3, v24] h21 fun v25 h26 =>
 popO (SemP PG (Instr.fieldAt T_api_Reply (Value.pointer (some ⟨r9, 0, none⟩)) 3)) fun v27 =>
 popO (SemE PG h26 (Instr.loadAt T_sl_api_Errno v27)) fun v28 =>
 popO (SemP PG (Builtin.len_ #[T_sl_api_Errno] T_int #[v28])) fun v29 =>
 popO (SemP PG (Builtin.min_ #[T_int, T_int] T_int #[v29, (Value.int IntKind.i64 255)])) fun v30 =>
 CallsH PG id_wire_Writer_Byte #[t3, v30] h26 fun v31 h32 =>
 popO (SemP PG (Instr.fieldAt T_api_Reply (Value.pointer (some ⟨r9, 0, none⟩)) 3)) fun v33 =>
 popO (SemE PG h32 (Instr.loadAt T_sl_api_Errno v33)) fun v34 =>
 popO (SemP PG (Instr.sliceAt T_sl_api_Errno v34 none (some v30) none)) fun v35 =>
 popO (SemP PG (Builtin.len_ #[T_sl_api_Errno] T_int #[v35])) fun v36 =>
 LoopL [3, 11, 12, 13, 37, 38, 39] (fun n37 ρ h => script_Bytes_b38 R n4 n37 (ρ 3) (ρ 11) (ρ 12) (ρ 13) (ρ 37) (ρ 38) (ρ 39) h) [t3, t11, t12, t13, v35, v36, (Value.int IntKind.i64 0)] h32)
 (CallsH PG id_wire_Writer_Bytes #[t3] h0 fun v47 h48 =>
 popO (SemP PG (Instr.extract v47 0)) fun v49 =>
 popO (SemP PG (Instr.extract v47 1)) fun v50 =>
 R v49 h48)
def script_Bytes (t0 : Value) (h0 : PH) (R : Value → PH → Prop) : Prop :=
 ∀ r1, h0 r1 = none → bindH (PH.set h0 r1 (.cells (zcells PG T_wire_Writer) T_wire_Writer)) fun h2 =>
 popO (SemP PG (Builtin.len_ #[T_sl_api_Reply] T_int #[t0])) fun v3 =>
 LoopL [3, 11, 12, 13] (fun n4 ρ h => script_Bytes_b5 R n4 (ρ 3) (ρ 11) (ρ 12) (ρ 13) h) [(Value.pointer (some ⟨r1, 0, none⟩)), t0, v3, (Value.int IntKind.i64 0)] h2
def script_Bytes.ann : Ann := { b := fun i => match i with  | _ => #[], ord := fun i => match i with  | _ => [], keep := fun i => match i with | 3 => [3, 11, 12, 13] | 11 => [3, 11, 12, 13, 37, 38, 39] | _ => [] }
theorem script_Bytes.eq (t0 : Value) (h0 : PH) (R : Value → PH → Prop) : codeF PG script_Bytes.ann 200 (bodyOf Try.f17) (endH PG Try.f17 R) (fun t => (#[t0] : Array Value).getD t undef) h0 = script_Bytes t0 h0 R := by kernel_rfl
theorem script_Bytes.call {t0 : Value} {h0 : PH} {R : Value → PH → Prop} (H : script_Bytes t0 h0 R) : CallsH PG id_script_Bytes #[t0] h0 R :=
  callsF_by script_Bytes.ann 200 mix Try.func17 (by kernel_rfl) (by kernel_rfl) (by kernel_rfl) (by kernel_rfl) (by simp [Try.ntmps17]) (script_Bytes.eq t0 h0 R) H

def carrackref23_Bytes_b33 (R : Value → PH → Prop) (n1 : List Value → PH → Prop) (n32 : List Value → PH → Prop) (t0 : Value) (t3 : Value) (t4 : Value) (t5 : Value) (t6 : Value) (h0 : PH) : Prop :=
 popO (SemP PG (binOp BinOp.lss T_int t6 t5)) fun v34 =>
 condV v34
 (popO (SemP PG (Instr.indexAt T_sl_api_Reply t0 t4)) fun v35 =>
 popO (SemP PG (Instr.fieldAt T_api_Reply v35 3)) fun v36 =>
 popO (SemE PG h0 (Instr.loadAt T_sl_api_Errno v36)) fun v37 =>
 popO (SemP PG (Instr.indexAt T_sl_api_Errno v37 t6)) fun v38 =>
 popO (SemE PG h0 (Instr.loadAt T_api_Errno v38)) fun v39 =>
 CallsH PG id_carrackref23_num #[v39, (Value.int IntKind.i64 1)] h0 fun v40 h41 =>
 popO (SemP PG (binOp BinOp.add T_string t3 v40)) fun v42 =>
 popO (SemP PG (binOp BinOp.add T_int t6 (Value.int IntKind.i64 1))) fun v43 =>
 n32 [t0, v42, t4, t5, v43] h41)
 (popO (SemP PG (binOp BinOp.add T_int t4 (Value.int IntKind.i64 1))) fun v44 =>
 n1 [t0, t3, v44] h0)
def carrackref23_Bytes_k10 (R : Value → PH → Prop) (n1 : List Value → PH → Prop) (t0 : Value) (t3 : Value) (t4 : Value) (t5 : Value) (h0 : PH) : Prop :=
 popO (SemP PG (Instr.indexAt T_sl_api_Reply t0 t4)) fun v11 =>
 popO (SemP PG (Instr.fieldAt T_api_Reply v11 0)) fun v12 =>
 popO (SemE PG h0 (Instr.loadAt T_api_Errno v12)) fun v13 =>
 popO (SemP PG (Instr.indexAt T_sl_api_Reply t0 t4)) fun v14 =>
 popO (SemP PG (Instr.fieldAt T_api_Reply v14 1)) fun v15 =>
 popO (SemE PG h0 (Instr.loadAt T_uint64 v15)) fun v16 =>
 popO (SemP PG (Instr.indexAt T_sl_api_Reply t0 t4)) fun v17 =>
 popO (SemP PG (Instr.fieldAt T_api_Reply v17 2)) fun v18 =>
 popO (SemE PG h0 (Instr.loadAt T_int v18)) fun v19 =>
 CallsH PG id_carrackref23_num #[v13, (Value.int IntKind.i64 1)] h0 fun v20 h21 =>
 SemE PG h21 (Instr.loadAt T_int v18) = some v19 ∧ SemE PG h21 (Instr.loadAt T_uint64 v15) = some v16 ∧ (popO (SemP PG (binOp BinOp.add T_string t3 v20)) fun v22 =>
 CallsH PG id_carrackref03_Bytes #[v16, (Value.int IntKind.i64 8)] h21 fun v23 h24 =>
 SemE PG h24 (Instr.loadAt T_int v18) = some v19 ∧ (popO (SemP PG (binOp BinOp.add T_string v22 v23)) fun v25 =>
 CallsH PG id_carrackref23_num #[v19, (Value.int IntKind.i64 2)] h24 fun v26 h27 =>
 (popO (SemP PG (binOp BinOp.add T_string v25 v26)) fun v28 =>
 CallsH PG id_carrackref23_num #[t5, (Value.int IntKind.i64 1)] h27 fun v29 h30 =>
 (popO (SemP PG (binOp BinOp.add T_string v28 v29)) fun v31 =>
 LoopL [0, 3, 4, 5, 6] (fun n32 ρ h => carrackref23_Bytes_b33 R n1 n32 (ρ 0) (ρ 3) (ρ 4) (ρ 5) (ρ 6) h) [t0, v31, t4, t5, (Value.int IntKind.i64 0)] h30))))
def carrackref23_Bytes_b2 (R : Value → PH → Prop) (n1 : List Value → PH → Prop) (t0 : Value) (t3 : Value) (t4 : Value) (h0 : PH) : Prop :=
 popO (SemP PG (Builtin.len_ #[T_sl_api_Reply] T_int #[t0])) fun v3 =>
 popO (SemP PG (binOp BinOp.lss T_int t4 v3)) fun v4 =>
 condV v4
 (popO (SemP PG (Instr.indexAt T_sl_api_Reply t0 t4)) fun v5 =>
 popO (SemP PG (Instr.fieldAt T_api_Reply v5 3)) fun v6 =>
 popO (SemE PG h0 (Instr.loadAt T_sl_api_Errno v6)) fun v7 =>
 popO (SemP PG (Builtin.len_ #[T_sl_api_Errno] T_int #[v7])) fun v8 =>
 popO (SemP PG (binOp BinOp.gtr T_int v8 (Value.int IntKind.i64 255))) fun v9 =>
 condV v9
 (carrackref23_Bytes_k10 R n1 t0 t3 t4 (Value.int IntKind.i64 255) h0)
 (carrackref23_Bytes_k10 R n1 t0 t3 t4 v8 h0))
 (R t3 h0)
def carrackref23_Bytes (t0 : Value) (h0 : PH) (R : Value → PH → Prop) : Prop :=
 LoopL [0, 3, 4] (fun n1 ρ h => carrackref23_Bytes_b2 R n1 (ρ 0) (ρ 3) (ρ 4) h) [t0, (Value.string { data := #[] }), (Value.int IntKind.i64 0)] h0
def carrackref23_Bytes.ann : Ann := { b := fun i => match i with | 8 => #[0, 0, 0, 6, 14, 30, 62, 127, 0, 0, 768, 1792, 3840, 8062, 16383, 0, 0, 98304, 229376, 491520, 1032062, 2097151, 0, 6274942, 16777215, 33554431] | _ => #[], ord := fun i => match i with | 8 => [0, 1, 2, 3, 4, 5, 8, 9, 10, 11, 12, 15, 16, 17, 18, 19, 22, 6, 7, 13, 14, 20, 21, 23, 24, 25] | _ => [], keep := fun i => match i with | 3 => [0, 3, 4] | 10 => [0, 3, 4, 5, 6] | _ => [] }
theorem carrackref23_Bytes.eq (t0 : Value) (h0 : PH) (R : Value → PH → Prop) : codeF PG carrackref23_Bytes.ann 200 (bodyOf Try.f18) (endH PG Try.f18 R) (fun t => (#[t0] : Array Value).getD t undef) h0 = carrackref23_Bytes t0 h0 R := by kernel_rfl
theorem carrackref23_Bytes.call {t0 : Value} {h0 : PH} {R : Value → PH → Prop} (H : carrackref23_Bytes t0 h0 R) : CallsH PG id_carrackref23_Bytes #[t0] h0 R :=
  callsF_by carrackref23_Bytes.ann 200 mix Try.func18 (by kernel_rfl) (by kernel_rfl) (by kernel_rfl) (by kernel_rfl) (by simp [Try.ntmps18]) (carrackref23_Bytes.eq t0 h0 R) H

end Go.Proofs.Ytflgnfiebgcegaa
