/- The texts of this claim, put together. -/
import Derived.Test.YtcoajnpchhmgjaaGreatDoorChMVC2
set_option maxRecDepth 100000
set_option linter.unusedVariables false
namespace Go.Proofs.YtcoajnpchhmgjaaGreatDoor
open Go
def chain_Chain_proved (t0 : Value) (t1 : Value) (t2 : Value) (h0 : PH) (R : Value → PH → Prop) : Prop :=
 ∀ r1, h0 r1 = none → bindH (PH.set h0 r1 (.cells (Value.cells t2) T_func_string_bool)) fun h2 =>
 ∀ r3, h2 r3 = none → bindH (PH.set h2 r3 (.cells (zcells PG T_chain_rule) T_chain_rule)) fun h4 =>
 ∀ r5, h4 r5 = none → bindH (PH.set h4 r5 (.cells (zcells PG T_chain_rule) T_chain_rule)) fun h6 =>
 popO (SemP PG (nilS t0)) fun v7 =>
 popO (SemP PG (Instr.fieldAt T_chain_Chain v7 2)) fun v8 =>
 popO (SemE PG h6 (Instr.loadAt T_p_client_Client v8)) fun v9 =>
 CallsH PG id_client_Client_Root #[v9, t1] h6 fun v10 h11 =>
 popO (SemP PG (Instr.extract v10 0)) fun v12 =>
 popO (SemP PG (Instr.extract v10 1)) fun v13 =>
 ∀ r14, h11 r14 = none → bindH (PH.set h11 r14 (.cells (zcells PG T_string) T_string)) fun h15 =>
 ∀ r16, h15 r16 = none → bindH (PH.set h15 r16 (.cells (zcells PG T_bool) T_bool)) fun h17 =>
 SemH PG (storeS T_string (Value.pointer (some ⟨r14, 0, none⟩)) v12) h17 fun v18 h19 =>
 SemH PG (storeS T_bool (Value.pointer (some ⟨r16, 0, none⟩)) v13) h19 fun v20 h21 =>
 popO (SemP PG (Instr.makeFunc (Fn.func id_chain_Chain_proved_1) #[] #[(Value.pointer (some ⟨r16, 0, none⟩))])) fun v22 =>
 popO (SemP PG (Instr.build T_chain_rule #[(0, v22), (1, (Value.int IntKind.i64 11))])) fun v23 =>
 popO (SemP PG (Instr.makeFunc (Fn.func id_chain_Chain_proved_2) #[] #[(Value.pointer (some ⟨r1, 0, none⟩)), (Value.pointer (some ⟨r14, 0, none⟩))])) fun v24 =>
 popO (SemP PG (Instr.build T_chain_rule #[(0, v24), (1, (Value.int IntKind.i64 9))])) fun v25 =>
 SemH PG (storeS T_chain_rule (Value.pointer (some ⟨r3, 0, none⟩)) v23) h21 fun v26 h27 =>
 SemH PG (storeS T_chain_rule (Value.pointer (some ⟨r5, 0, none⟩)) v25) h27 fun v28 h29 =>
 popO (SemE PG h29 (Instr.loadAt T_chain_rule (Value.pointer (some ⟨r3, 0, none⟩)))) fun v30 =>
 popO (SemE PG h29 (Instr.loadAt T_chain_rule (Value.pointer (some ⟨r5, 0, none⟩)))) fun v31 =>
 R (Value.tuple #[v30, v31]) h29
def chain_Chain_proved.ann : Ann := { b := fun i => match i with  | _ => #[], ord := fun i => match i with  | _ => [], keep := fun i => match i with  | _ => [], n := 23 }
theorem chain_Chain_proved.eq (t0 : Value) (t1 : Value) (t2 : Value) (h0 : PH) (R : Value → PH → Prop) : codeF PG chain_Chain_proved.ann 200 (bodyOf Tryz.f77) (endH PG Tryz.f77 R) (fun t => (#[t0, t1, t2] : Array Value).getD t undef) h0 = chain_Chain_proved t0 t1 t2 h0 R := by kernel_rfl
theorem chain_Chain_proved.call {t0 : Value} {t1 : Value} {t2 : Value} {h0 : PH} {R : Value → PH → Prop} (H : chain_Chain_proved t0 t1 t2 h0 R) : CallsH PG id_chain_Chain_proved #[t0, t1, t2] h0 R :=
  callsF_by chain_Chain_proved.ann 200 mix Tryz.func77 (by kernel_rfl) (by kernel_rfl) (by kernel_rfl) (by kernel_rfl) (by simp [Tryz.ntmps77]) (chain_Chain_proved.eq t0 t1 t2 h0 R) H
def client_Client_Root (t0 : Value) (t1 : Value) (h0 : PH) (R : Value → PH → Prop) : Prop :=
 popO (SemP PG (nilS t0)) fun v1 =>
 popO (SemP PG (Instr.fieldAt T_client_Client v1 0)) fun v2 =>
 popO (SemE PG h0 (Instr.loadAt T_map_uint64_string v2)) fun v3 =>
 popO (SemE PG h0 (Instr.lookup T_map_uint64_string v3 t1 true)) fun v4 =>
 popO (SemP PG (Instr.extract v4 0)) fun v5 =>
 popO (SemP PG (Instr.extract v4 1)) fun v6 =>
 R (Value.tuple #[v5, v6]) h0
def client_Client_Root.ann : Ann := { b := fun i => match i with  | _ => #[], ord := fun i => match i with  | _ => [], keep := fun i => match i with  | _ => [], n := 19 }
theorem client_Client_Root.eq (t0 : Value) (t1 : Value) (h0 : PH) (R : Value → PH → Prop) : codeF PG client_Client_Root.ann 200 (bodyOf Tryz.f143) (endH PG Tryz.f143 R) (fun t => (#[t0, t1] : Array Value).getD t undef) h0 = client_Client_Root t0 t1 h0 R := by kernel_rfl
theorem client_Client_Root.call {t0 : Value} {t1 : Value} {h0 : PH} {R : Value → PH → Prop} (H : client_Client_Root t0 t1 h0 R) : CallsH PG id_client_Client_Root #[t0, t1] h0 R :=
  callsF_by client_Client_Root.ann 200 mix Tryz.func143 (by kernel_rfl) (by kernel_rfl) (by kernel_rfl) (by kernel_rfl) (by simp [Tryz.ntmps143]) (client_Client_Root.eq t0 t1 h0 R) H
def chain_Chain_proved_1 (t0 : Value) (h0 : PH) (R : Value → PH → Prop) : Prop :=
 popO (SemE PG h0 (Instr.loadAt T_bool t0)) fun v1 =>
 R v1 h0
def chain_Chain_proved_1.ann : Ann := { b := fun i => match i with  | _ => #[], ord := fun i => match i with  | _ => [], keep := fun i => match i with  | _ => [], n := 3 }
theorem chain_Chain_proved_1.eq (t0 : Value) (h0 : PH) (R : Value → PH → Prop) : codeF PG chain_Chain_proved_1.ann 200 (bodyOf Tryz.f144) (endH PG Tryz.f144 R) (fun t => (#[t0] : Array Value).getD t undef) h0 = chain_Chain_proved_1 t0 h0 R := by kernel_rfl
theorem chain_Chain_proved_1.call {t0 : Value} {h0 : PH} {R : Value → PH → Prop} (H : chain_Chain_proved_1 t0 h0 R) : CallsH PG id_chain_Chain_proved_1 #[t0] h0 R :=
  callsF_by chain_Chain_proved_1.ann 200 mix Tryz.func144 (by kernel_rfl) (by kernel_rfl) (by kernel_rfl) (by kernel_rfl) (by simp [Tryz.ntmps144]) (chain_Chain_proved_1.eq t0 h0 R) H
def chain_Chain_proved_2 (t0 : Value) (t1 : Value) (h0 : PH) (R : Value → PH → Prop) : Prop :=
 popO (SemE PG h0 (Instr.loadAt T_func_string_bool t0)) fun v1 =>
 popO (SemE PG h0 (Instr.loadAt T_string t1)) fun v2 =>
 callC PG v1 #[v2] h0 fun v3 h4 =>
 R v3 h4
def chain_Chain_proved_2.ann : Ann := { b := fun i => match i with  | _ => #[], ord := fun i => match i with  | _ => [], keep := fun i => match i with  | _ => [], n := 6 }
theorem chain_Chain_proved_2.eq (t0 : Value) (t1 : Value) (h0 : PH) (R : Value → PH → Prop) : codeF PG chain_Chain_proved_2.ann 200 (bodyOf Tryz.f145) (endH PG Tryz.f145 R) (fun t => (#[t0, t1] : Array Value).getD t undef) h0 = chain_Chain_proved_2 t0 t1 h0 R := by kernel_rfl
theorem chain_Chain_proved_2.call {t0 : Value} {t1 : Value} {h0 : PH} {R : Value → PH → Prop} (H : chain_Chain_proved_2 t0 t1 h0 R) : CallsH PG id_chain_Chain_proved_2 #[t0, t1] h0 R :=
  callsF_by chain_Chain_proved_2.ann 200 mix Tryz.func145 (by kernel_rfl) (by kernel_rfl) (by kernel_rfl) (by kernel_rfl) (by simp [Tryz.ntmps145]) (chain_Chain_proved_2.eq t0 t1 h0 R) H
def chain_Chain_Recv_1 (t0 : Value) (t1 : Value) (t2 : Value) (h0 : PH) (R : Value → PH → Prop) : Prop :=
 popO (SemE PG h0 (Instr.loadAt T_string t1)) fun v1 =>
 popO (SemP PG (Instr.fieldAt T_api_Packet t2 1)) fun v2 =>
 popO (SemE PG h0 (Instr.loadAt T_uint64 v2)) fun v3 =>
 popO (SemE PG h0 (Instr.loadAt T_api_Packet t2)) fun v4 =>
 CallsH PG id_packet_Sent #[v3] h0 fun v5 h6 =>
 SemE PG h6 (Instr.loadAt T_api_Packet t2) = some v4 ∧ SemE PG h6 (Instr.loadAt T_string t1) = some v1 ∧ (CallsH PG id_packet_Commitment #[v4] h6 fun v7 h8 =>
 SemE PG h8 (Instr.loadAt T_string t1) = some v1 ∧ (CallsH PG id_proof_Has #[t0, v1, v5, v7] h8 fun v9 h10 =>
 (R v9 h10)))
def chain_Chain_Recv_1.ann : Ann := { b := fun i => match i with | 1 => #[0, 0, 0, 4, 12, 0, 60, 127, 255] | _ => #[], ord := fun i => match i with | 1 => [0, 1, 2, 3, 5, 4, 6, 7, 8] | _ => [], keep := fun i => match i with  | _ => [], n := 13 }
theorem chain_Chain_Recv_1.eq (t0 : Value) (t1 : Value) (t2 : Value) (h0 : PH) (R : Value → PH → Prop) : codeF PG chain_Chain_Recv_1.ann 200 (bodyOf Tryz.f78) (endH PG Tryz.f78 R) (fun t => (#[t0, t1, t2] : Array Value).getD t undef) h0 = chain_Chain_Recv_1 t0 t1 t2 h0 R := by kernel_rfl
theorem chain_Chain_Recv_1.call {t0 : Value} {t1 : Value} {t2 : Value} {h0 : PH} {R : Value → PH → Prop} (H : chain_Chain_Recv_1 t0 t1 t2 h0 R) : CallsH PG id_chain_Chain_Recv_1 #[t0, t1, t2] h0 R :=
  callsF_by chain_Chain_Recv_1.ann 200 mix Tryz.func78 (by kernel_rfl) (by kernel_rfl) (by kernel_rfl) (by kernel_rfl) (by simp [Tryz.ntmps78]) (chain_Chain_Recv_1.eq t0 t1 t2 h0 R) H
def proof_Has (t0 : Value) (t1 : Value) (t2 : Value) (t3 : Value) (h0 : PH) (R : Value → PH → Prop) : Prop :=
 CallsH PG id_proof_Parse #[t1] h0 fun v1 h2 =>
 popO (SemP PG (Instr.extract v1 0)) fun v3 =>
 popO (SemP PG (Instr.extract v1 1)) fun v4 =>
 ∀ r5, h2 r5 = none → bindH (PH.set h2 r5 (.cells (zcells PG T_api_Proof) T_api_Proof)) fun h6 =>
 SemH PG (storeS T_api_Proof (Value.pointer (some ⟨r5, 0, none⟩)) v3) h6 fun v7 h8 =>
 popO (SemE PG h8 (binS BinOp.eql T_api_Errno (.tmp 16) (.const (Value.int IntKind.i64 0)) v4 (Value.int IntKind.i64 0))) fun v9 =>
 gopV (yV v9) true (fun k12 => popO (SemP PG (Instr.fieldAt T_api_Proof (Value.pointer (some ⟨r5, 0, none⟩)) 0)) fun v13 => k12 v13 h8) h8 fun v10 h11 =>
 gopV (yV v9) true (fun k16 => popO (SemE PG h11 (Instr.loadAt T_bool v10)) fun v17 => k16 v17 h11) h11 fun v14 h15 =>
 gopV (yV v9) true (fun k20 => popO (SemP PG (Op.unary UnOp.not v14)) fun v21 => k20 v21 h15) h15 fun v18 h19 =>
 popO (pickV v9 v18 (Value.bool false)) fun v22 =>
 gopV (yV v22) true (fun k25 => popO (SemP PG (Instr.fieldAt T_api_Proof (Value.pointer (some ⟨r5, 0, none⟩)) 1)) fun v26 => k25 v26 h19) h19 fun v23 h24 =>
 gopV (yV v22) true (fun k29 => popO (SemE PG h24 (Instr.loadAt T_sl_api_Leaf v23)) fun v30 => k29 v30 h24) h24 fun v27 h28 =>
 gopV (yV v22) true (fun k33 => popO (SemP PG (Builtin.len_ #[T_sl_api_Leaf] T_int #[v27])) fun v34 => k33 v34 h28) h28 fun v31 h32 =>
 gopV (yV v22) true (fun k37 => popO (SemE PG h32 (binS BinOp.eql T_int (.tmp 26) (.const (Value.int IntKind.i64 1)) v31 (Value.int IntKind.i64 1))) fun v38 => k37 v38 h32) h32 fun v35 h36 =>
 popO (pickV v22 v35 (Value.bool false)) fun v39 =>
 gopV (yV v39) true (fun k42 => popO (SemP PG (Instr.fieldAt T_api_Proof (Value.pointer (some ⟨r5, 0, none⟩)) 1)) fun v43 => k42 v43 h36) h36 fun v40 h41 =>
 gopV (yV v39) true (fun k46 => popO (SemE PG h41 (Instr.loadAt T_sl_api_Leaf v40)) fun v47 => k46 v47 h41) h41 fun v44 h45 =>
 gopV (yV v39) true (fun k50 => popO (SemP PG (Instr.indexAt T_sl_api_Leaf v44 (Value.int IntKind.i64 0))) fun v51 => k50 v51 h45) h45 fun v48 h49 =>
 gopV (yV v39) true (fun k54 => popO (SemP PG (Instr.fieldAt T_api_Leaf v48 2)) fun v55 => k54 v55 h49) h49 fun v52 h53 =>
 gopV (yV v39) true (fun k58 => popO (SemE PG h53 (Instr.loadAt T_api_Pair v52)) fun v59 => k58 v59 h53) h53 fun v56 h57 =>
 gopV (yV v39) true (fun k62 => k62 t2 h57) h57 fun v60 h61 =>
 gopV (yV v39) true (fun k65 => k65 t3 h61) h61 fun v63 h64 =>
 gopV (yV v39) true (fun k68 => popO (SemP PG (Instr.build T_api_Pair #[(0, v60), (1, v63)])) fun v69 => k68 v69 h64) h64 fun v66 h67 =>
 gopV (yV v39) true (fun k72 => popO (SemE PG h67 (binS BinOp.eql T_api_Pair (.tmp 34) (.tmp 37) v56 v66)) fun v73 => k72 v73 h67) h67 fun v70 h71 =>
 popO (pickV v39 v70 (Value.bool false)) fun v74 =>
 gopV (yV v74) true (fun k77 => k77 t0 h71) h71 fun v75 h76 =>
 gopV (yV v74) true (fun k80 => popO (SemP PG (Instr.fieldAt T_api_Proof (Value.pointer (some ⟨r5, 0, none⟩)) 1)) fun v81 => k80 v81 h76) h76 fun v78 h79 =>
 gopV (yV v74) true (fun k84 => popO (SemE PG h79 (Instr.loadAt T_sl_api_Leaf v78)) fun v85 => k84 v85 h79) h79 fun v82 h83 =>
 gopV (yV v74) true (fun k88 => CallsH PG id_proof_climb #[v75, v82] h83 fun v89 h90 => k88 v89 h90) h83 fun v86 h87 =>
 popO (pickV v74 v86 (Value.bool false)) fun v91 =>
 R v91 h87
def proof_Has.ann : Ann := { b := fun i => match i with  | _ => #[], ord := fun i => match i with  | _ => [], keep := fun i => match i with  | _ => [], n := 46 }
theorem proof_Has.eq (t0 : Value) (t1 : Value) (t2 : Value) (t3 : Value) (h0 : PH) (R : Value → PH → Prop) : codeF PG proof_Has.ann 200 (bodyOf Tryz.f19) (endH PG Tryz.f19 R) (fun t => (#[t0, t1, t2, t3] : Array Value).getD t undef) h0 = proof_Has t0 t1 t2 t3 h0 R := by kernel_rfl
theorem proof_Has.call {t0 : Value} {t1 : Value} {t2 : Value} {t3 : Value} {h0 : PH} {R : Value → PH → Prop} (H : proof_Has t0 t1 t2 t3 h0 R) : CallsH PG id_proof_Has #[t0, t1, t2, t3] h0 R :=
  callsF_by proof_Has.ann 200 mix Tryz.func19 (by kernel_rfl) (by kernel_rfl) (by kernel_rfl) (by kernel_rfl) (by simp [Tryz.ntmps19]) (proof_Has.eq t0 t1 t2 t3 h0 R) H
def proof_Parse_b37 (R : Value → PH → Prop) (n36 : List Value → PH → Prop) (t2 : Value) (t4 : Value) (t7 : Value) (t28 : Value) (t29 : Value) (h0 : PH) : Prop :=
 popO (SemP PG (binOp BinOp.lss T_int t29 t28)) fun v38 =>
 condV v38
 (popO (SemP PG (Instr.fieldAt T_api_Proof t7 1)) fun v39 =>
 popO (SemE PG h0 (Instr.loadAt T_sl_api_Leaf v39)) fun v40 =>
 CallsH PG id_proof_leaf #[t4] h0 fun v41 h42 =>
 SemE PG h42 (Instr.loadAt T_sl_api_Leaf v39) = some v40 ∧ (popO (SemA PG (Instr.buildSlice T_sl_api_Leaf 1 #[(0, v41)])) fun x44 => ∀ r43, h42 r43 = none → popO (SemP PG (x44.2 r43)) fun v45 => bindH (PH.set h42 r43 x44.1) fun h46 =>
 SemH PG (Builtin.append_ #[T_sl_api_Leaf, T_sl_api_Leaf] T_sl_api_Leaf #[v40, v45]) h46 fun v47 h48 =>
 (popO (SemP PG (Instr.fieldAt T_api_Proof t7 1)) fun v49 =>
 SemH PG (storeS T_sl_api_Leaf v49 v47) h48 fun v50 h51 =>
 (popO (SemP PG (binOp BinOp.add T_int t29 (Value.int IntKind.i64 1))) fun v52 =>
 n36 [t2, t4, t7, t28, v52] h51))))
 (CallsH PG id_wire_Reader_End #[t4] h0 fun v53 h54 =>
 popO (SemE PG h54 (binS BinOp.neq T_api_Errno (.tmp 40) (.const (Value.int IntKind.i64 0)) v53 (Value.int IntKind.i64 0))) fun v55 =>
 condV v55
 (popO (SemP PG (Instr.build T_api_Proof #[])) fun v56 =>
 SemH PG (storeS T_api_Proof t2 v56) h54 fun v57 h58 =>
 popO (SemE PG h58 (Instr.loadAt T_api_Proof t2)) fun v59 =>
 R (Value.tuple #[v59, (Value.int IntKind.i64 5)]) h58)
 (popO (SemE PG h54 (Instr.loadAt T_api_Proof t7)) fun v60 =>
 SemH PG (storeS T_api_Proof t2 v60) h54 fun v61 h62 =>
 popO (SemE PG h62 (Instr.loadAt T_api_Proof t2)) fun v63 =>
 R (Value.tuple #[v63, (Value.int IntKind.i64 0)]) h62))
def proof_Parse (t0 : Value) (h0 : PH) (R : Value → PH → Prop) : Prop :=
 ∀ r1, h0 r1 = none → bindH (PH.set h0 r1 (.cells (zcells PG T_api_Proof) T_api_Proof)) fun h2 =>
 CallsH PG id_wire_NewReader #[t0] h2 fun v3 h4 =>
 CallsH PG id_wire_Reader_Byte #[v3] h4 fun v5 h6 =>
 CallsH PG id_wire_Reader_Byte #[v3] h6 fun v7 h8 =>
 popO (SemP PG (binOp BinOp.lss T_int v5 (Value.int IntKind.i64 1))) fun v9 =>
 gopV (yV v9) false (fun k12 => k12 v5 h8) h8 fun v10 h11 =>
 gopV (yV v9) false (fun k15 => popO (SemP PG (binOp BinOp.gtr T_int v10 (Value.int IntKind.i64 2))) fun v16 => k15 v16 h11) h11 fun v13 h14 =>
 popO (pickV v9 (Value.bool true) v13) fun v17 =>
 gopV (yV v17) false (fun k20 => k20 v7 h14) h14 fun v18 h19 =>
 gopV (yV v17) false (fun k23 => popO (SemP PG (binOp BinOp.gtr T_int v18 (Value.int IntKind.i64 2))) fun v24 => k23 v24 h19) h19 fun v21 h22 =>
 popO (pickV v17 (Value.bool true) v21) fun v25 =>
 condV v25
 (popO (SemP PG (Instr.build T_api_Proof #[])) fun v26 =>
 SemH PG (storeS T_api_Proof (Value.pointer (some ⟨r1, 0, none⟩)) v26) h22 fun v27 h28 =>
 popO (SemE PG h28 (Instr.loadAt T_api_Proof (Value.pointer (some ⟨r1, 0, none⟩)))) fun v29 =>
 R (Value.tuple #[v29, (Value.int IntKind.i64 5)]) h28)
 (popO (SemE PG h22 (binS BinOp.eql T_int (.tmp 25) (.const (Value.int IntKind.i64 2)) v5 (Value.int IntKind.i64 2))) fun v30 =>
 popO (SemP PG (Instr.build T_api_Proof #[(0, v30)])) fun v31 =>
 ∀ r32, h22 r32 = none → bindH (PH.set h22 r32 (.cells (zcells PG T_api_Proof) T_api_Proof)) fun h33 =>
 SemH PG (storeS T_api_Proof (Value.pointer (some ⟨r32, 0, none⟩)) v31) h33 fun v34 h35 =>
 LoopL [2, 4, 7, 28, 29] (fun n36 ρ h => proof_Parse_b37 R n36 (ρ 2) (ρ 4) (ρ 7) (ρ 28) (ρ 29) h) [(Value.pointer (some ⟨r1, 0, none⟩)), v3, (Value.pointer (some ⟨r32, 0, none⟩)), v7, (Value.int IntKind.i64 0)] h35)
def proof_Parse.ann : Ann := { b := fun i => match i with | 8 => #[0, 1, 0, 4, 12, 31, 63, 127] | _ => #[], ord := fun i => match i with | 8 => [0, 1, 2, 3, 4, 5, 6, 7] | _ => [], keep := fun i => match i with | 7 => [2, 4, 7, 28, 29] | _ => [], n := 44 }
theorem proof_Parse.eq (t0 : Value) (h0 : PH) (R : Value → PH → Prop) : codeF PG proof_Parse.ann 200 (bodyOf Tryz.f53) (endH PG Tryz.f53 R) (fun t => (#[t0] : Array Value).getD t undef) h0 = proof_Parse t0 h0 R := by kernel_rfl
theorem proof_Parse.call {t0 : Value} {h0 : PH} {R : Value → PH → Prop} (H : proof_Parse t0 h0 R) : CallsH PG id_proof_Parse #[t0] h0 R :=
  callsF_by proof_Parse.ann 200 mix Tryz.func53 (by kernel_rfl) (by kernel_rfl) (by kernel_rfl) (by kernel_rfl) (by simp [Tryz.ntmps53]) (proof_Parse.eq t0 h0 R) H
def wire_NewReader (t0 : Value) (h0 : PH) (R : Value → PH → Prop) : Prop :=
 popO (SemP PG (Instr.build T_wire_Reader #[(1, t0)])) fun v1 =>
 ∀ r2, h0 r2 = none → bindH (PH.set h0 r2 (.cells (Value.cells v1) T_wire_Reader)) fun h3 =>
 R (Value.pointer (some ⟨r2, 0, none⟩)) h3
def wire_NewReader.ann : Ann := { b := fun i => match i with  | _ => #[], ord := fun i => match i with  | _ => [], keep := fun i => match i with  | _ => [], n := 6 }
theorem wire_NewReader.eq (t0 : Value) (h0 : PH) (R : Value → PH → Prop) : codeF PG wire_NewReader.ann 200 (bodyOf Tryz.f122) (endH PG Tryz.f122 R) (fun t => (#[t0] : Array Value).getD t undef) h0 = wire_NewReader t0 h0 R := by kernel_rfl
theorem wire_NewReader.call {t0 : Value} {h0 : PH} {R : Value → PH → Prop} (H : wire_NewReader t0 h0 R) : CallsH PG id_wire_NewReader #[t0] h0 R :=
  callsF_by wire_NewReader.ann 200 mix Tryz.func122 (by kernel_rfl) (by kernel_rfl) (by kernel_rfl) (by kernel_rfl) (by simp [Tryz.ntmps122]) (wire_NewReader.eq t0 h0 R) H
def wire_Reader_Byte (t0 : Value) (h0 : PH) (R : Value → PH → Prop) : Prop :=
 CallsH PG id_wire_Reader_get #[t0, (Value.int IntKind.i64 1)] h0 fun v1 h2 =>
 popO (SemP PG (convert T_uint64 T_int v1)) fun v3 =>
 R v3 h2
def wire_Reader_Byte.ann : Ann := { b := fun i => match i with  | _ => #[], ord := fun i => match i with  | _ => [], keep := fun i => match i with  | _ => [], n := 6 }
theorem wire_Reader_Byte.eq (t0 : Value) (h0 : PH) (R : Value → PH → Prop) : codeF PG wire_Reader_Byte.ann 200 (bodyOf Tryz.f123) (endH PG Tryz.f123 R) (fun t => (#[t0] : Array Value).getD t undef) h0 = wire_Reader_Byte t0 h0 R := by kernel_rfl
theorem wire_Reader_Byte.call {t0 : Value} {h0 : PH} {R : Value → PH → Prop} (H : wire_Reader_Byte t0 h0 R) : CallsH PG id_wire_Reader_Byte #[t0] h0 R :=
  callsF_by wire_Reader_Byte.ann 200 mix Tryz.func123 (by kernel_rfl) (by kernel_rfl) (by kernel_rfl) (by kernel_rfl) (by simp [Tryz.ntmps123]) (wire_Reader_Byte.eq t0 h0 R) H
def wire_Reader_get_b7 (R : Value → PH → Prop) (n6 : List Value → PH → Prop) (t5 : Value) (t11 : Value) (t12 : Value) (t13 : Value) (h0 : PH) : Prop :=
 popO (SemP PG (binOp BinOp.lss T_int t13 t12)) fun v8 =>
 condV v8
 (popO (SemP PG (Instr.indexAt T_sl_uint8 t11 t13)) fun v9 =>
 popO (SemE PG h0 (Instr.loadAt T_uint8 v9)) fun v10 =>
 popO (SemP PG (binOp BinOp.shl T_uint64 t5 (Value.int IntKind.u64 8))) fun v11 =>
 popO (SemP PG (convert T_uint8 T_uint64 v10)) fun v12 =>
 popO (SemP PG (binOp BinOp.or T_uint64 v11 v12)) fun v13 =>
 popO (SemP PG (binOp BinOp.add T_int t13 (Value.int IntKind.i64 1))) fun v14 =>
 n6 [v13, t11, t12, v14] h0)
 (R t5 h0)
def wire_Reader_get (t0 : Value) (t1 : Value) (h0 : PH) (R : Value → PH → Prop) : Prop :=
 CallsH PG id_wire_Reader_Raw #[t0, t1] h0 fun v1 h2 =>
 SemH PG (convert T_string T_sl_uint8 v1) h2 fun v3 h4 =>
 popO (SemP PG (Builtin.len_ #[T_sl_uint8] T_int #[v3])) fun v5 =>
 LoopL [5, 11, 12, 13] (fun n6 ρ h => wire_Reader_get_b7 R n6 (ρ 5) (ρ 11) (ρ 12) (ρ 13) h) [(Value.int IntKind.u64 0), v3, v5, (Value.int IntKind.i64 0)] h4
def wire_Reader_get.ann : Ann := { b := fun i => match i with  | _ => #[], ord := fun i => match i with  | _ => [], keep := fun i => match i with | 3 => [5, 11, 12, 13] | _ => [], n := 24 }
theorem wire_Reader_get.eq (t0 : Value) (t1 : Value) (h0 : PH) (R : Value → PH → Prop) : codeF PG wire_Reader_get.ann 200 (bodyOf Tryz.f171) (endH PG Tryz.f171 R) (fun t => (#[t0, t1] : Array Value).getD t undef) h0 = wire_Reader_get t0 t1 h0 R := by kernel_rfl
theorem wire_Reader_get.call {t0 : Value} {t1 : Value} {h0 : PH} {R : Value → PH → Prop} (H : wire_Reader_get t0 t1 h0 R) : CallsH PG id_wire_Reader_get #[t0, t1] h0 R :=
  callsF_by wire_Reader_get.ann 200 mix Tryz.func171 (by kernel_rfl) (by kernel_rfl) (by kernel_rfl) (by kernel_rfl) (by simp [Tryz.ntmps171]) (wire_Reader_get.eq t0 t1 h0 R) H
def wire_Reader_Raw_k33 (R : Value → PH → Prop) (t0 : Value) (t1 : Value) (h0 : PH) : Prop :=
 popO (SemP PG (nilS t0)) fun v34 =>
 popO (SemP PG (Instr.fieldAt T_wire_Reader v34 0)) fun v35 =>
 CallsH PG id_wire_memory_Err #[v35] h0 fun v36 h37 =>
 popO (SemE PG h37 (binS BinOp.neq T_api_Errno (.tmp 24) (.const (Value.int IntKind.i64 0)) v36 (Value.int IntKind.i64 0))) fun v38 =>
 condV v38
 (R (Value.string { data := #[] }) h37)
 (popO (SemP PG (nilS t0)) fun v39 =>
 popO (SemP PG (Instr.fieldAt T_wire_Reader v39 1)) fun v40 =>
 popO (SemE PG h37 (Instr.loadAt T_string v40)) fun v41 =>
 popO (SemP PG (Instr.sliceAt T_string v41 none (some t1) none)) fun v42 =>
 popO (SemP PG (nilS t0)) fun v43 =>
 popO (SemP PG (Instr.fieldAt T_wire_Reader v43 1)) fun v44 =>
 popO (SemE PG h37 (Instr.loadAt T_string v44)) fun v45 =>
 popO (SemP PG (Instr.sliceAt T_string v45 (some t1) none none)) fun v46 =>
 popO (SemP PG (nilS t0)) fun v47 =>
 popO (SemP PG (Instr.fieldAt T_wire_Reader v47 1)) fun v48 =>
 SemH PG (storeS T_string v48 v46) h37 fun v49 h50 =>
 R v42 h50)
def wire_Reader_Raw (t0 : Value) (t1 : Value) (h0 : PH) (R : Value → PH → Prop) : Prop :=
 popO (SemP PG (binOp BinOp.lss T_int t1 (Value.int IntKind.i64 0))) fun v1 =>
 gopV (yV v1) false (fun k4 => k4 t1 h0) h0 fun v2 h3 =>
 gopV (yV v1) false (fun k7 => k7 t0 h3) h3 fun v5 h6 =>
 gopV (yV v1) false (fun k10 => popO (SemP PG (nilS v5)) fun v11 => k10 v11 h6) h6 fun v8 h9 =>
 gopV (yV v1) false (fun k14 => popO (SemP PG (Instr.fieldAt T_wire_Reader v8 1)) fun v15 => k14 v15 h9) h9 fun v12 h13 =>
 gopV (yV v1) false (fun k18 => popO (SemE PG h13 (Instr.loadAt T_string v12)) fun v19 => k18 v19 h13) h13 fun v16 h17 =>
 gopV (yV v1) false (fun k22 => popO (SemP PG (Builtin.len_ #[T_string] T_int #[v16])) fun v23 => k22 v23 h17) h17 fun v20 h21 =>
 gopV (yV v1) false (fun k26 => popO (SemP PG (binOp BinOp.gtr T_int v2 v20)) fun v27 => k26 v27 h21) h21 fun v24 h25 =>
 popO (pickV v1 (Value.bool true) v24) fun v28 =>
 condV v28
 (popO (SemP PG (nilS t0)) fun v29 =>
 popO (SemP PG (Instr.fieldAt T_wire_Reader v29 0)) fun v30 =>
 CallsH PG id_wire_memory_Fail #[v30, (Value.int IntKind.i64 6)] h25 fun v31 h32 =>
 wire_Reader_Raw_k33 R t0 t1 h32)
 (wire_Reader_Raw_k33 R t0 t1 h25)
def wire_Reader_Raw.ann : Ann := { b := fun i => match i with  | _ => #[], ord := fun i => match i with  | _ => [], keep := fun i => match i with  | _ => [], n := 42 }
theorem wire_Reader_Raw.eq (t0 : Value) (t1 : Value) (h0 : PH) (R : Value → PH → Prop) : codeF PG wire_Reader_Raw.ann 200 (bodyOf Tryz.f174) (endH PG Tryz.f174 R) (fun t => (#[t0, t1] : Array Value).getD t undef) h0 = wire_Reader_Raw t0 t1 h0 R := by kernel_rfl
theorem wire_Reader_Raw.call {t0 : Value} {t1 : Value} {h0 : PH} {R : Value → PH → Prop} (H : wire_Reader_Raw t0 t1 h0 R) : CallsH PG id_wire_Reader_Raw #[t0, t1] h0 R :=
  callsF_by wire_Reader_Raw.ann 200 mix Tryz.func174 (by kernel_rfl) (by kernel_rfl) (by kernel_rfl) (by kernel_rfl) (by simp [Tryz.ntmps174]) (wire_Reader_Raw.eq t0 t1 h0 R) H
def proof_leaf_k72 (R : Value → PH → Prop) (t2 : Value) (t3 : Value) (h0 : PH) : Prop :=
 popO (SemE PG h0 (Instr.loadAt T_api_Leaf t3)) fun v73 =>
 SemH PG (storeS T_api_Leaf t2 v73) h0 fun v74 h75 =>
 popO (SemE PG h75 (Instr.loadAt T_api_Leaf t2)) fun v76 =>
 R v76 h75
def proof_leaf_b27 (R : Value → PH → Prop) (n26 : List Value → PH → Prop) (t0 : Value) (t2 : Value) (t3 : Value) (t4 : Value) (h0 : PH) : Prop :=
 popO (SemP PG (binOp BinOp.gtr T_int t4 (Value.int IntKind.i64 0))) fun v28 =>
 gopV (yV v28) true (fun k31 => k31 t0 h0) h0 fun v29 h30 =>
 gopV (yV v28) true (fun k34 => popO (SemP PG (nilS v29)) fun v35 => k34 v35 h30) h30 fun v32 h33 =>
 gopV (yV v28) true (fun k38 => popO (SemP PG (Instr.fieldAt T_wire_Reader v32 0)) fun v39 => k38 v39 h33) h33 fun v36 h37 =>
 gopV (yV v28) true (fun k42 => CallsH PG id_wire_memory_Err #[v36] h37 fun v43 h44 => k42 v43 h44) h37 fun v40 h41 =>
 gopV (yV v28) true (fun k47 => popO (SemE PG h41 (binS BinOp.eql T_api_Errno (.tmp 26) (.const (Value.int IntKind.i64 0)) v40 (Value.int IntKind.i64 0))) fun v48 => k47 v48 h41) h41 fun v45 h46 =>
 popO (pickV v28 v45 (Value.bool false)) fun v49 =>
 condV v49
 (popO (SemP PG (Instr.fieldAt T_api_Leaf t3 3)) fun v50 =>
 popO (SemE PG h46 (Instr.loadAt T_sl_string v50)) fun v51 =>
 CallsH PG id_wire_Reader_Raw #[t0, (Value.int IntKind.i64 32)] h46 fun v52 h53 =>
 SemE PG h53 (Instr.loadAt T_sl_string v50) = some v51 ∧ (popO (SemA PG (Instr.buildSlice T_sl_string 1 #[(0, v52)])) fun x55 => ∀ r54, h53 r54 = none → popO (SemP PG (x55.2 r54)) fun v56 => bindH (PH.set h53 r54 x55.1) fun h57 =>
 SemH PG (Builtin.append_ #[T_sl_string, T_sl_string] T_sl_string #[v51, v56]) h57 fun v58 h59 =>
 (popO (SemP PG (Instr.fieldAt T_api_Leaf t3 3)) fun v60 =>
 SemH PG (storeS T_sl_string v60 v58) h59 fun v61 h62 =>
 (popO (SemP PG (binOp BinOp.sub T_int t4 (Value.int IntKind.i64 1))) fun v63 =>
 n26 [t0, t2, t3, v63] h62))))
 (popO (SemE PG h46 (Instr.loadAt T_api_Leaf t3)) fun v64 =>
 CallsH PG id_proof_within #[v64] h46 fun v65 h66 =>
 popO (SemP PG (Op.unary UnOp.not v65)) fun v67 =>
 condV v67
 (popO (SemP PG (nilS t0)) fun v68 =>
 popO (SemP PG (Instr.fieldAt T_wire_Reader v68 0)) fun v69 =>
 CallsH PG id_wire_memory_Fail #[v69, (Value.int IntKind.i64 5)] h66 fun v70 h71 =>
 proof_leaf_k72 R t2 t3 h71)
 (proof_leaf_k72 R t2 t3 h66))
def proof_leaf (t0 : Value) (h0 : PH) (R : Value → PH → Prop) : Prop :=
 ∀ r1, h0 r1 = none → bindH (PH.set h0 r1 (.cells (zcells PG T_api_Leaf) T_api_Leaf)) fun h2 =>
 CallsH PG id_proof_small #[t0, (Value.int IntKind.u64 4096)] h2 fun v3 h4 =>
 CallsH PG id_proof_small #[t0, (Value.int IntKind.u64 4096)] h4 fun v5 h6 =>
 popO (SemP PG (Instr.build T_api_Leaf #[(0, v3), (1, v5)])) fun v7 =>
 ∀ r8, h6 r8 = none → bindH (PH.set h6 r8 (.cells (zcells PG T_api_Leaf) T_api_Leaf)) fun h9 =>
 SemH PG (storeS T_api_Leaf (Value.pointer (some ⟨r8, 0, none⟩)) v7) h9 fun v10 h11 =>
 CallsH PG id_wire_Reader_Text #[t0] h11 fun v12 h13 =>
 popO (SemP PG (Instr.fieldAt T_api_Leaf (Value.pointer (some ⟨r8, 0, none⟩)) 2)) fun v14 =>
 popO (SemP PG (Instr.fieldAt T_api_Pair v14 0)) fun v15 =>
 SemH PG (storeS T_string v15 v12) h13 fun v16 h17 =>
 CallsH PG id_wire_Reader_Text #[t0] h17 fun v18 h19 =>
 popO (SemP PG (Instr.fieldAt T_api_Leaf (Value.pointer (some ⟨r8, 0, none⟩)) 2)) fun v20 =>
 popO (SemP PG (Instr.fieldAt T_api_Pair v20 1)) fun v21 =>
 SemH PG (storeS T_string v21 v18) h19 fun v22 h23 =>
 CallsH PG id_wire_Reader_Byte #[t0] h23 fun v24 h25 =>
 LoopL [0, 2, 3, 4] (fun n26 ρ h => proof_leaf_b27 R n26 (ρ 0) (ρ 2) (ρ 3) (ρ 4) h) [t0, (Value.pointer (some ⟨r1, 0, none⟩)), (Value.pointer (some ⟨r8, 0, none⟩)), v24] h25
def proof_leaf.ann : Ann := { b := fun i => match i with | 7 => #[0, 1, 0, 4, 12, 31, 63, 127] | _ => #[], ord := fun i => match i with | 7 => [0, 1, 2, 3, 4, 5, 6, 7] | _ => [], keep := fun i => match i with | 5 => [0, 2, 3, 4] | _ => [], n := 46 }
theorem proof_leaf.eq (t0 : Value) (h0 : PH) (R : Value → PH → Prop) : codeF PG proof_leaf.ann 200 (bodyOf Tryz.f124) (endH PG Tryz.f124 R) (fun t => (#[t0] : Array Value).getD t undef) h0 = proof_leaf t0 h0 R := by kernel_rfl
theorem proof_leaf.call {t0 : Value} {h0 : PH} {R : Value → PH → Prop} (H : proof_leaf t0 h0 R) : CallsH PG id_proof_leaf #[t0] h0 R :=
  callsF_by proof_leaf.ann 200 mix Tryz.func124 (by kernel_rfl) (by kernel_rfl) (by kernel_rfl) (by kernel_rfl) (by simp [Tryz.ntmps124]) (proof_leaf.eq t0 h0 R) H
def proof_small (t0 : Value) (t1 : Value) (h0 : PH) (R : Value → PH → Prop) : Prop :=
 CallsH PG id_wire_Reader_Number #[t0] h0 fun v1 h2 =>
 popO (SemP PG (binOp BinOp.gtr T_uint64 v1 t1)) fun v3 =>
 condV v3
 (popO (SemP PG (nilS t0)) fun v4 =>
 popO (SemP PG (Instr.fieldAt T_wire_Reader v4 0)) fun v5 =>
 CallsH PG id_wire_memory_Fail #[v5, (Value.int IntKind.i64 5)] h2 fun v6 h7 =>
 R (Value.int IntKind.i64 0) h7)
 (popO (SemP PG (convert T_uint64 T_int v1)) fun v8 =>
 R v8 h2)
def proof_small.ann : Ann := { b := fun i => match i with  | _ => #[], ord := fun i => match i with  | _ => [], keep := fun i => match i with  | _ => [], n := 17 }
theorem proof_small.eq (t0 : Value) (t1 : Value) (h0 : PH) (R : Value → PH → Prop) : codeF PG proof_small.ann 200 (bodyOf Tryz.f172) (endH PG Tryz.f172 R) (fun t => (#[t0, t1] : Array Value).getD t undef) h0 = proof_small t0 t1 h0 R := by kernel_rfl
theorem proof_small.call {t0 : Value} {t1 : Value} {h0 : PH} {R : Value → PH → Prop} (H : proof_small t0 t1 h0 R) : CallsH PG id_proof_small #[t0, t1] h0 R :=
  callsF_by proof_small.ann 200 mix Tryz.func172 (by kernel_rfl) (by kernel_rfl) (by kernel_rfl) (by kernel_rfl) (by simp [Tryz.ntmps172]) (proof_small.eq t0 t1 h0 R) H
def wire_Reader_Number (t0 : Value) (h0 : PH) (R : Value → PH → Prop) : Prop :=
 CallsH PG id_wire_Reader_get #[t0, (Value.int IntKind.i64 8)] h0 fun v1 h2 =>
 R v1 h2
def wire_Reader_Number.ann : Ann := { b := fun i => match i with  | _ => #[], ord := fun i => match i with  | _ => [], keep := fun i => match i with  | _ => [], n := 5 }
theorem wire_Reader_Number.eq (t0 : Value) (h0 : PH) (R : Value → PH → Prop) : codeF PG wire_Reader_Number.ann 200 (bodyOf Tryz.f211) (endH PG Tryz.f211 R) (fun t => (#[t0] : Array Value).getD t undef) h0 = wire_Reader_Number t0 h0 R := by kernel_rfl
theorem wire_Reader_Number.call {t0 : Value} {h0 : PH} {R : Value → PH → Prop} (H : wire_Reader_Number t0 h0 R) : CallsH PG id_wire_Reader_Number #[t0] h0 R :=
  callsF_by wire_Reader_Number.ann 200 mix Tryz.func211 (by kernel_rfl) (by kernel_rfl) (by kernel_rfl) (by kernel_rfl) (by simp [Tryz.ntmps211]) (wire_Reader_Number.eq t0 h0 R) H
def wire_Reader_Text (t0 : Value) (h0 : PH) (R : Value → PH → Prop) : Prop :=
 CallsH PG id_wire_Reader_get #[t0, (Value.int IntKind.i64 2)] h0 fun v1 h2 =>
 popO (SemP PG (convert T_uint64 T_int v1)) fun v3 =>
 CallsH PG id_wire_Reader_Raw #[t0, v3] h2 fun v4 h5 =>
 R v4 h5
def wire_Reader_Text.ann : Ann := { b := fun i => match i with  | _ => #[], ord := fun i => match i with  | _ => [], keep := fun i => match i with  | _ => [], n := 8 }
theorem wire_Reader_Text.eq (t0 : Value) (h0 : PH) (R : Value → PH → Prop) : codeF PG wire_Reader_Text.ann 200 (bodyOf Tryz.f173) (endH PG Tryz.f173 R) (fun t => (#[t0] : Array Value).getD t undef) h0 = wire_Reader_Text t0 h0 R := by kernel_rfl
theorem wire_Reader_Text.call {t0 : Value} {h0 : PH} {R : Value → PH → Prop} (H : wire_Reader_Text t0 h0 R) : CallsH PG id_wire_Reader_Text #[t0] h0 R :=
  callsF_by wire_Reader_Text.ann 200 mix Tryz.func173 (by kernel_rfl) (by kernel_rfl) (by kernel_rfl) (by kernel_rfl) (by simp [Tryz.ntmps173]) (wire_Reader_Text.eq t0 h0 R) H
def wire_Reader_End (t0 : Value) (h0 : PH) (R : Value → PH → Prop) : Prop :=
 CallsH PG id_wire_Reader_Left #[t0] h0 fun v1 h2 =>
 popO (SemP PG (binOp BinOp.gtr T_int v1 (Value.int IntKind.i64 0))) fun v3 =>
 condV v3
 (R (Value.int IntKind.i64 7) h2)
 (popO (SemP PG (nilS t0)) fun v4 =>
 popO (SemP PG (Instr.fieldAt T_wire_Reader v4 0)) fun v5 =>
 CallsH PG id_wire_memory_Err #[v5] h2 fun v6 h7 =>
 R v6 h7)
def wire_Reader_End.ann : Ann := { b := fun i => match i with  | _ => #[], ord := fun i => match i with  | _ => [], keep := fun i => match i with  | _ => [], n := 10 }
theorem wire_Reader_End.eq (t0 : Value) (h0 : PH) (R : Value → PH → Prop) : codeF PG wire_Reader_End.ann 200 (bodyOf Tryz.f125) (endH PG Tryz.f125 R) (fun t => (#[t0] : Array Value).getD t undef) h0 = wire_Reader_End t0 h0 R := by kernel_rfl
theorem wire_Reader_End.call {t0 : Value} {h0 : PH} {R : Value → PH → Prop} (H : wire_Reader_End t0 h0 R) : CallsH PG id_wire_Reader_End #[t0] h0 R :=
  callsF_by wire_Reader_End.ann 200 mix Tryz.func125 (by kernel_rfl) (by kernel_rfl) (by kernel_rfl) (by kernel_rfl) (by simp [Tryz.ntmps125]) (wire_Reader_End.eq t0 h0 R) H
def wire_Reader_Left (t0 : Value) (h0 : PH) (R : Value → PH → Prop) : Prop :=
 popO (SemP PG (nilS t0)) fun v1 =>
 popO (SemP PG (Instr.fieldAt T_wire_Reader v1 0)) fun v2 =>
 CallsH PG id_wire_memory_Err #[v2] h0 fun v3 h4 =>
 popO (SemE PG h4 (binS BinOp.neq T_api_Errno (.tmp 6) (.const (Value.int IntKind.i64 0)) v3 (Value.int IntKind.i64 0))) fun v5 =>
 condV v5
 (R (Value.int IntKind.i64 0) h4)
 (popO (SemP PG (nilS t0)) fun v6 =>
 popO (SemP PG (Instr.fieldAt T_wire_Reader v6 1)) fun v7 =>
 popO (SemE PG h4 (Instr.loadAt T_string v7)) fun v8 =>
 popO (SemP PG (Builtin.len_ #[T_string] T_int #[v8])) fun v9 =>
 R v9 h4)
def wire_Reader_Left.ann : Ann := { b := fun i => match i with  | _ => #[], ord := fun i => match i with  | _ => [], keep := fun i => match i with  | _ => [], n := 13 }
theorem wire_Reader_Left.eq (t0 : Value) (h0 : PH) (R : Value → PH → Prop) : codeF PG wire_Reader_Left.ann 200 (bodyOf Tryz.f175) (endH PG Tryz.f175 R) (fun t => (#[t0] : Array Value).getD t undef) h0 = wire_Reader_Left t0 h0 R := by kernel_rfl
theorem wire_Reader_Left.call {t0 : Value} {h0 : PH} {R : Value → PH → Prop} (H : wire_Reader_Left t0 h0 R) : CallsH PG id_wire_Reader_Left #[t0] h0 R :=
  callsF_by wire_Reader_Left.ann 200 mix Tryz.func175 (by kernel_rfl) (by kernel_rfl) (by kernel_rfl) (by kernel_rfl) (by simp [Tryz.ntmps175]) (wire_Reader_Left.eq t0 h0 R) H
def proof_climb (t0 : Value) (t1 : Value) (h0 : PH) (R : Value → PH → Prop) : Prop :=
 ∀ r1, h0 r1 = none → bindH (PH.set h0 r1 (.cells (Value.cells t0) T_string)) fun h2 =>
 popO (SemP PG (Instr.makeFunc (Fn.func id_proof_climb_1) #[] #[(Value.pointer (some ⟨r1, 0, none⟩))])) fun v3 =>
 CallsH PG id_slices_ContainsFunc_sl_api_Leaf_api_Leaf #[t1, v3] h2 fun v4 h5 =>
 popO (SemP PG (Op.unary UnOp.not v4)) fun v6 =>
 R v6 h5
def proof_climb.ann : Ann := { b := fun i => match i with  | _ => #[], ord := fun i => match i with  | _ => [], keep := fun i => match i with  | _ => [], n := 9 }
theorem proof_climb.eq (t0 : Value) (t1 : Value) (h0 : PH) (R : Value → PH → Prop) : codeF PG proof_climb.ann 200 (bodyOf Tryz.f54) (endH PG Tryz.f54 R) (fun t => (#[t0, t1] : Array Value).getD t undef) h0 = proof_climb t0 t1 h0 R := by kernel_rfl
theorem proof_climb.call {t0 : Value} {t1 : Value} {h0 : PH} {R : Value → PH → Prop} (H : proof_climb t0 t1 h0 R) : CallsH PG id_proof_climb #[t0, t1] h0 R :=
  callsF_by proof_climb.ann 200 mix Tryz.func54 (by kernel_rfl) (by kernel_rfl) (by kernel_rfl) (by kernel_rfl) (by simp [Tryz.ntmps54]) (proof_climb.eq t0 t1 h0 R) H
def proof_climb_1 (t0 : Value) (t1 : Value) (h0 : PH) (R : Value → PH → Prop) : Prop :=
 ∀ r1, h0 r1 = none → bindH (PH.set h0 r1 (.cells (Value.cells t0) T_api_Leaf)) fun h2 =>
 popO (SemE PG h2 (Instr.loadAt T_api_Leaf (Value.pointer (some ⟨r1, 0, none⟩)))) fun v3 =>
 CallsH PG id_merkle_Climb #[v3] h2 fun v4 h5 =>
 popO (SemP PG (Instr.extract v4 0)) fun v6 =>
 popO (SemP PG (Instr.extract v4 1)) fun v7 =>
 popO (SemP PG (Op.unary UnOp.not v7)) fun v8 =>
 gopV (yV v8) false (fun k11 => k11 v6 h5) h5 fun v9 h10 =>
 gopV (yV v8) false (fun k14 => popO (SemE PG h10 (Instr.loadAt T_string t1)) fun v15 => k14 v15 h10) h10 fun v12 h13 =>
 gopV (yV v8) false (fun k18 => popO (SemE PG h13 (binS BinOp.neq T_string (.tmp 14) (.tmp 15) v9 v12)) fun v19 => k18 v19 h13) h13 fun v16 h17 =>
 popO (pickV v8 (Value.bool true) v16) fun v20 =>
 R v20 h17
def proof_climb_1.ann : Ann := { b := fun i => match i with  | _ => #[], ord := fun i => match i with  | _ => [], keep := fun i => match i with  | _ => [], n := 18 }
theorem proof_climb_1.eq (t0 : Value) (t1 : Value) (h0 : PH) (R : Value → PH → Prop) : codeF PG proof_climb_1.ann 200 (bodyOf Tryz.f126) (endH PG Tryz.f126 R) (fun t => (#[t0, t1] : Array Value).getD t undef) h0 = proof_climb_1 t0 t1 h0 R := by kernel_rfl
theorem proof_climb_1.call {t0 : Value} {t1 : Value} {h0 : PH} {R : Value → PH → Prop} (H : proof_climb_1 t0 t1 h0 R) : CallsH PG id_proof_climb_1 #[t0, t1] h0 R :=
  callsF_by proof_climb_1.ann 200 mix Tryz.func126 (by kernel_rfl) (by kernel_rfl) (by kernel_rfl) (by kernel_rfl) (by simp [Tryz.ntmps126]) (proof_climb_1.eq t0 t1 h0 R) H
def merkle_Climb (t0 : Value) (h0 : PH) (R : Value → PH → Prop) : Prop :=
 ∀ r1, h0 r1 = none → bindH (PH.set h0 r1 (.cells (Value.cells t0) T_api_Leaf)) fun h2 =>
 popO (SemP PG (Instr.fieldAt T_api_Leaf (Value.pointer (some ⟨r1, 0, none⟩)) 1)) fun v3 =>
 popO (SemE PG h2 (Instr.loadAt T_int v3)) fun v4 =>
 popO (SemP PG (binOp BinOp.lss T_int v4 (Value.int IntKind.i64 1))) fun v5 =>
 gopV (yV v5) false (fun k8 => popO (SemP PG (Instr.fieldAt T_api_Leaf (Value.pointer (some ⟨r1, 0, none⟩)) 1)) fun v9 => k8 v9 h2) h2 fun v6 h7 =>
 gopV (yV v5) false (fun k12 => popO (SemE PG h7 (Instr.loadAt T_int v6)) fun v13 => k12 v13 h7) h7 fun v10 h11 =>
 gopV (yV v5) false (fun k16 => popO (SemP PG (binOp BinOp.gtr T_int v10 (Value.int IntKind.i64 4096))) fun v17 => k16 v17 h11) h11 fun v14 h15 =>
 popO (pickV v5 (Value.bool true) v14) fun v18 =>
 gopV (yV v18) false (fun k21 => popO (SemP PG (Instr.fieldAt T_api_Leaf (Value.pointer (some ⟨r1, 0, none⟩)) 0)) fun v22 => k21 v22 h15) h15 fun v19 h20 =>
 gopV (yV v18) false (fun k25 => popO (SemE PG h20 (Instr.loadAt T_int v19)) fun v26 => k25 v26 h20) h20 fun v23 h24 =>
 gopV (yV v18) false (fun k29 => popO (SemP PG (binOp BinOp.lss T_int v23 (Value.int IntKind.i64 0))) fun v30 => k29 v30 h24) h24 fun v27 h28 =>
 popO (pickV v18 (Value.bool true) v27) fun v31 =>
 gopV (yV v31) false (fun k34 => popO (SemP PG (Instr.fieldAt T_api_Leaf (Value.pointer (some ⟨r1, 0, none⟩)) 0)) fun v35 => k34 v35 h28) h28 fun v32 h33 =>
 gopV (yV v31) false (fun k38 => popO (SemE PG h33 (Instr.loadAt T_int v32)) fun v39 => k38 v39 h33) h33 fun v36 h37 =>
 gopV (yV v31) false (fun k42 => popO (SemP PG (Instr.fieldAt T_api_Leaf (Value.pointer (some ⟨r1, 0, none⟩)) 1)) fun v43 => k42 v43 h37) h37 fun v40 h41 =>
 gopV (yV v31) false (fun k46 => popO (SemE PG h41 (Instr.loadAt T_int v40)) fun v47 => k46 v47 h41) h41 fun v44 h45 =>
 gopV (yV v31) false (fun k50 => popO (SemP PG (binOp BinOp.geq T_int v36 v44)) fun v51 => k50 v51 h45) h45 fun v48 h49 =>
 popO (pickV v31 (Value.bool true) v48) fun v52 =>
 condV v52
 (R (Value.tuple #[(Value.string { data := #[] }), (Value.bool false)]) h49)
 (popO (SemP PG (Instr.fieldAt T_api_Leaf (Value.pointer (some ⟨r1, 0, none⟩)) 3)) fun v53 =>
 popO (SemE PG h49 (Instr.loadAt T_sl_string v53)) fun v54 =>
 ∀ r55, h49 r55 = none → bindH (PH.set h49 r55 (.cells (zcells PG T_sl_string) T_sl_string)) fun h56 =>
 ∀ r57, h56 r57 = none → bindH (PH.set h56 r57 (.cells (zcells PG T_bool) T_bool)) fun h58 =>
 SemH PG (storeS T_sl_string (Value.pointer (some ⟨r55, 0, none⟩)) v54) h58 fun v59 h60 =>
 SemH PG (storeS T_bool (Value.pointer (some ⟨r57, 0, none⟩)) (Value.bool true)) h60 fun v61 h62 =>
 ∀ r63, h62 r63 = none → bindH (PH.set h62 r63 (.cells (zcells PG T_func_int_int_string) T_func_int_int_string)) fun h64 =>
 popO (SemP PG (Instr.makeFunc (Fn.func id_merkle_Climb_1) #[] #[(Value.pointer (some ⟨r1, 0, none⟩)), (Value.pointer (some ⟨r55, 0, none⟩)), (Value.pointer (some ⟨r57, 0, none⟩)), (Value.pointer (some ⟨r63, 0, none⟩))])) fun v65 =>
 SemH PG (storeS T_func_int_int_string (Value.pointer (some ⟨r63, 0, none⟩)) v65) h64 fun v66 h67 =>
 popO (SemE PG h67 (Instr.loadAt T_func_int_int_string (Value.pointer (some ⟨r63, 0, none⟩)))) fun v68 =>
 popO (SemP PG (Instr.fieldAt T_api_Leaf (Value.pointer (some ⟨r1, 0, none⟩)) 0)) fun v69 =>
 popO (SemE PG h67 (Instr.loadAt T_int v69)) fun v70 =>
 popO (SemP PG (Instr.fieldAt T_api_Leaf (Value.pointer (some ⟨r1, 0, none⟩)) 1)) fun v71 =>
 popO (SemE PG h67 (Instr.loadAt T_int v71)) fun v72 =>
 callC PG v68 #[v70, v72] h67 fun v73 h74 =>
 popO (SemE PG h74 (Instr.loadAt T_bool (Value.pointer (some ⟨r57, 0, none⟩)))) fun v75 =>
 popO (SemP PG (Op.unary UnOp.not v75)) fun v76 =>
 gopV (yV v76) false (fun k79 => popO (SemE PG h74 (Instr.loadAt T_sl_string (Value.pointer (some ⟨r55, 0, none⟩)))) fun v80 => k79 v80 h74) h74 fun v77 h78 =>
 gopV (yV v76) false (fun k83 => popO (SemP PG (Builtin.len_ #[T_sl_string] T_int #[v77])) fun v84 => k83 v84 h78) h78 fun v81 h82 =>
 gopV (yV v76) false (fun k87 => popO (SemP PG (binOp BinOp.gtr T_int v81 (Value.int IntKind.i64 0))) fun v88 => k87 v88 h82) h82 fun v85 h86 =>
 popO (pickV v76 (Value.bool true) v85) fun v89 =>
 condV v89
 (R (Value.tuple #[(Value.string { data := #[] }), (Value.bool false)]) h86)
 (popO (SemP PG (Instr.fieldAt T_api_Leaf (Value.pointer (some ⟨r1, 0, none⟩)) 1)) fun v90 =>
 popO (SemE PG h86 (Instr.loadAt T_int v90)) fun v91 =>
 CallsH PG id_merkle_Top #[v91, v73] h86 fun v92 h93 =>
 R (Value.tuple #[v92, (Value.bool true)]) h93))
def merkle_Climb.ann : Ann := { b := fun i => match i with  | _ => #[], ord := fun i => match i with  | _ => [], keep := fun i => match i with  | _ => [], n := 48 }
theorem merkle_Climb.eq (t0 : Value) (h0 : PH) (R : Value → PH → Prop) : codeF PG merkle_Climb.ann 200 (bodyOf Tryz.f127) (endH PG Tryz.f127 R) (fun t => (#[t0] : Array Value).getD t undef) h0 = merkle_Climb t0 h0 R := by kernel_rfl
theorem merkle_Climb.call {t0 : Value} {h0 : PH} {R : Value → PH → Prop} (H : merkle_Climb t0 h0 R) : CallsH PG id_merkle_Climb #[t0] h0 R :=
  callsF_by merkle_Climb.ann 200 mix Tryz.func127 (by kernel_rfl) (by kernel_rfl) (by kernel_rfl) (by kernel_rfl) (by simp [Tryz.ntmps127]) (merkle_Climb.eq t0 h0 R) H
def merkle_Climb_1 (t0 : Value) (t1 : Value) (t2 : Value) (t3 : Value) (t4 : Value) (t5 : Value) (h0 : PH) (R : Value → PH → Prop) : Prop :=
 popO (SemE PG h0 (binS BinOp.eql T_int (.tmp 11) (.const (Value.int IntKind.i64 1)) t1 (Value.int IntKind.i64 1))) fun v1 =>
 condV v1
 (popO (SemP PG (Instr.fieldAt T_api_Leaf t2 2)) fun v2 =>
 popO (SemE PG h0 (Instr.loadAt T_api_Pair v2)) fun v3 =>
 CallsH PG id_merkle_Leaf #[v3] h0 fun v4 h5 =>
 R v4 h5)
 (CallsH PG id_merkle_left #[t1] h0 fun v6 h7 =>
 popO (SemE PG h7 (Instr.loadAt T_sl_string t3)) fun v8 =>
 popO (SemP PG (Builtin.len_ #[T_sl_string] T_int #[v8])) fun v9 =>
 popO (SemE PG h7 (binS BinOp.eql T_int (.tmp 19) (.const (Value.int IntKind.i64 0)) v9 (Value.int IntKind.i64 0))) fun v10 =>
 gopV (yV v10) false (fun k13 => popO (SemE PG h7 (Instr.loadAt T_sl_string t3)) fun v14 => k13 v14 h7) h7 fun v11 h12 =>
 gopV (yV v10) false (fun k17 => popO (SemE PG h12 (Instr.loadAt T_sl_string t3)) fun v18 => k17 v18 h12) h12 fun v15 h16 =>
 gopV (yV v10) false (fun k21 => popO (SemP PG (Builtin.len_ #[T_sl_string] T_int #[v15])) fun v22 => k21 v22 h16) h16 fun v19 h20 =>
 gopV (yV v10) false (fun k25 => popO (SemP PG (binOp BinOp.sub T_int v19 (Value.int IntKind.i64 1))) fun v26 => k25 v26 h20) h20 fun v23 h24 =>
 gopV (yV v10) false (fun k29 => popO (SemP PG (Instr.indexAt T_sl_string v11 v23)) fun v30 => k29 v30 h24) h24 fun v27 h28 =>
 gopV (yV v10) false (fun k33 => popO (SemE PG h28 (Instr.loadAt T_string v27)) fun v34 => k33 v34 h28) h28 fun v31 h32 =>
 gopV (yV v10) false (fun k37 => popO (SemP PG (Builtin.len_ #[T_string] T_int #[v31])) fun v38 => k37 v38 h32) h32 fun v35 h36 =>
 gopV (yV v10) false (fun k41 => popO (SemE PG h36 (binS BinOp.neq T_int (.tmp 28) (.const (Value.int IntKind.i64 32)) v35 (Value.int IntKind.i64 32))) fun v42 => k41 v42 h36) h36 fun v39 h40 =>
 popO (pickV v10 (Value.bool true) v39) fun v43 =>
 condV v43
 (SemH PG (storeS T_bool t4 (Value.bool false)) h40 fun v44 h45 =>
 R (Value.string { data := #[] }) h45)
 (popO (SemE PG h40 (Instr.loadAt T_sl_string t3)) fun v46 =>
 popO (SemE PG h40 (Instr.loadAt T_sl_string t3)) fun v47 =>
 popO (SemP PG (Builtin.len_ #[T_sl_string] T_int #[v47])) fun v48 =>
 popO (SemP PG (binOp BinOp.sub T_int v48 (Value.int IntKind.i64 1))) fun v49 =>
 popO (SemP PG (Instr.indexAt T_sl_string v46 v49)) fun v50 =>
 popO (SemE PG h40 (Instr.loadAt T_string v50)) fun v51 =>
 popO (SemE PG h40 (Instr.loadAt T_sl_string t3)) fun v52 =>
 popO (SemE PG h40 (Instr.loadAt T_sl_string t3)) fun v53 =>
 popO (SemP PG (Builtin.len_ #[T_sl_string] T_int #[v53])) fun v54 =>
 popO (SemP PG (binOp BinOp.sub T_int v54 (Value.int IntKind.i64 1))) fun v55 =>
 popO (SemP PG (Instr.sliceAt T_sl_string v52 none (some v55) none)) fun v56 =>
 SemH PG (storeS T_sl_string t3 v56) h40 fun v57 h58 =>
 popO (SemP PG (binOp BinOp.lss T_int t0 v6)) fun v59 =>
 condV v59
 (popO (SemE PG h58 (Instr.loadAt T_func_int_int_string t5)) fun v60 =>
 callC PG v60 #[t0, v6] h58 fun v61 h62 =>
 CallsH PG id_merkle_both #[v61, v51] h62 fun v63 h64 =>
 R v63 h64)
 (popO (SemE PG h58 (Instr.loadAt T_func_int_int_string t5)) fun v65 =>
 popO (SemP PG (binOp BinOp.sub T_int t0 v6)) fun v66 =>
 popO (SemP PG (binOp BinOp.sub T_int t1 v6)) fun v67 =>
 callC PG v65 #[v66, v67] h58 fun v68 h69 =>
 CallsH PG id_merkle_both #[v51, v68] h69 fun v70 h71 =>
 R v70 h71)))
def merkle_Climb_1.ann : Ann := { b := fun i => match i with  | _ => #[], ord := fun i => match i with  | _ => [], keep := fun i => match i with  | _ => [], n := 61 }
theorem merkle_Climb_1.eq (t0 : Value) (t1 : Value) (t2 : Value) (t3 : Value) (t4 : Value) (t5 : Value) (h0 : PH) (R : Value → PH → Prop) : codeF PG merkle_Climb_1.ann 200 (bodyOf Tryz.f176) (endH PG Tryz.f176 R) (fun t => (#[t0, t1, t2, t3, t4, t5] : Array Value).getD t undef) h0 = merkle_Climb_1 t0 t1 t2 t3 t4 t5 h0 R := by kernel_rfl
theorem merkle_Climb_1.call {t0 : Value} {t1 : Value} {t2 : Value} {t3 : Value} {t4 : Value} {t5 : Value} {h0 : PH} {R : Value → PH → Prop} (H : merkle_Climb_1 t0 t1 t2 t3 t4 t5 h0 R) : CallsH PG id_merkle_Climb_1 #[t0, t1, t2, t3, t4, t5] h0 R :=
  callsF_by merkle_Climb_1.ann 200 mix Tryz.func176 (by kernel_rfl) (by kernel_rfl) (by kernel_rfl) (by kernel_rfl) (by simp [Tryz.ntmps176]) (merkle_Climb_1.eq t0 t1 t2 t3 t4 t5 h0 R) H
def chain_from (t0 : Value) (t1 : Value) (h0 : PH) (R : Value → PH → Prop) : Prop :=
 ∀ r1, h0 r1 = none → bindH (PH.set h0 r1 (.cells (Value.cells t0) T_api_Packet)) fun h2 =>
 ∀ r3, h2 r3 = none → bindH (PH.set h2 r3 (.cells (Value.cells t1) T_int)) fun h4 =>
 ∀ r5, h4 r5 = none → bindH (PH.set h4 r5 (.cells (zcells PG T_chain_rule) T_chain_rule)) fun h6 =>
 popO (SemP PG (Instr.makeFunc (Fn.func id_chain_from_1) #[] #[(Value.pointer (some ⟨r1, 0, none⟩)), (Value.pointer (some ⟨r3, 0, none⟩))])) fun v7 =>
 popO (SemP PG (Instr.build T_chain_rule #[(0, v7), (1, (Value.int IntKind.i64 1))])) fun v8 =>
 SemH PG (storeS T_chain_rule (Value.pointer (some ⟨r5, 0, none⟩)) v8) h6 fun v9 h10 =>
 popO (SemE PG h10 (Instr.loadAt T_chain_rule (Value.pointer (some ⟨r5, 0, none⟩)))) fun v11 =>
 R v11 h10
def chain_from.ann : Ann := { b := fun i => match i with  | _ => #[], ord := fun i => match i with  | _ => [], keep := fun i => match i with  | _ => [], n := 7 }
theorem chain_from.eq (t0 : Value) (t1 : Value) (h0 : PH) (R : Value → PH → Prop) : codeF PG chain_from.ann 200 (bodyOf Tryz.f79) (endH PG Tryz.f79 R) (fun t => (#[t0, t1] : Array Value).getD t undef) h0 = chain_from t0 t1 h0 R := by kernel_rfl
theorem chain_from.call {t0 : Value} {t1 : Value} {h0 : PH} {R : Value → PH → Prop} (H : chain_from t0 t1 h0 R) : CallsH PG id_chain_from #[t0, t1] h0 R :=
  callsF_by chain_from.ann 200 mix Tryz.func79 (by kernel_rfl) (by kernel_rfl) (by kernel_rfl) (by kernel_rfl) (by simp [Tryz.ntmps79]) (chain_from.eq t0 t1 h0 R) H
def chain_from_1 (t0 : Value) (t1 : Value) (h0 : PH) (R : Value → PH → Prop) : Prop :=
 popO (SemE PG h0 (Instr.loadAt T_api_Packet t0)) fun v1 =>
 CallsH PG id_packet_Check #[v1] h0 fun v2 h3 =>
 popO (SemE PG h3 (binS BinOp.eql T_api_Errno (.tmp 4) (.const (Value.int IntKind.i64 0)) v2 (Value.int IntKind.i64 0))) fun v4 =>
 gopV (yV v4) true (fun k7 => popO (SemP PG (Instr.fieldAt T_api_Packet t0 0)) fun v8 => k7 v8 h3) h3 fun v5 h6 =>
 gopV (yV v4) true (fun k11 => popO (SemE PG h6 (Instr.loadAt T_int v5)) fun v12 => k11 v12 h6) h6 fun v9 h10 =>
 gopV (yV v4) true (fun k15 => popO (SemE PG h10 (Instr.loadAt T_int t1)) fun v16 => k15 v16 h10) h10 fun v13 h14 =>
 gopV (yV v4) true (fun k19 => popO (SemE PG h14 (binS BinOp.eql T_int (.tmp 8) (.tmp 9) v9 v13)) fun v20 => k19 v20 h14) h14 fun v17 h18 =>
 popO (pickV v4 v17 (Value.bool false)) fun v21 =>
 R v21 h18
def chain_from_1.ann : Ann := { b := fun i => match i with  | _ => #[], ord := fun i => match i with  | _ => [], keep := fun i => match i with  | _ => [], n := 12 }
theorem chain_from_1.eq (t0 : Value) (t1 : Value) (h0 : PH) (R : Value → PH → Prop) : codeF PG chain_from_1.ann 200 (bodyOf Tryz.f146) (endH PG Tryz.f146 R) (fun t => (#[t0, t1] : Array Value).getD t undef) h0 = chain_from_1 t0 t1 h0 R := by kernel_rfl
theorem chain_from_1.call {t0 : Value} {t1 : Value} {h0 : PH} {R : Value → PH → Prop} (H : chain_from_1 t0 t1 h0 R) : CallsH PG id_chain_from_1 #[t0, t1] h0 R :=
  callsF_by chain_from_1.ann 200 mix Tryz.func146 (by kernel_rfl) (by kernel_rfl) (by kernel_rfl) (by kernel_rfl) (by simp [Tryz.ntmps146]) (chain_from_1.eq t0 t1 h0 R) H
def chain_Chain_Recv_2 (t0 : Value) (t1 : Value) (h0 : PH) (R : Value → PH → Prop) : Prop :=
 popO (SemP PG (Instr.fieldAt T_api_Packet t0 2)) fun v1 =>
 popO (SemE PG h0 (Instr.loadAt T_uint64 v1)) fun v2 =>
 popO (SemE PG h0 (Instr.loadAt T_p_chain_Chain t1)) fun v3 =>
 popO (SemP PG (nilS v3)) fun v4 =>
 popO (SemP PG (Instr.fieldAt T_chain_Chain v4 0)) fun v5 =>
 popO (SemP PG (Instr.fieldAt T_chain_ledger v5 0)) fun v6 =>
 popO (SemE PG h0 (Instr.loadAt T_p_store_Store v6)) fun v7 =>
 CallsH PG id_store_Store_Height #[v7] h0 fun v8 h9 =>
 SemE PG h9 (Instr.loadAt T_uint64 v1) = some v2 ∧ (popO (SemP PG (binOp BinOp.add T_uint64 v8 (Value.int IntKind.u64 1))) fun v10 =>
 popO (SemP PG (binOp BinOp.gtr T_uint64 v2 v10)) fun v11 =>
 R v11 h9)
def chain_Chain_Recv_2.ann : Ann := { b := fun i => match i with | 1 => #[0, 1, 0, 4, 12, 28, 60, 124, 252, 511, 1023] | _ => #[], ord := fun i => match i with | 1 => [0, 1, 2, 3, 4, 5, 6, 7, 8, 9, 10] | _ => [], keep := fun i => match i with  | _ => [], n := 13 }
theorem chain_Chain_Recv_2.eq (t0 : Value) (t1 : Value) (h0 : PH) (R : Value → PH → Prop) : codeF PG chain_Chain_Recv_2.ann 200 (bodyOf Tryz.f80) (endH PG Tryz.f80 R) (fun t => (#[t0, t1] : Array Value).getD t undef) h0 = chain_Chain_Recv_2 t0 t1 h0 R := by kernel_rfl
theorem chain_Chain_Recv_2.call {t0 : Value} {t1 : Value} {h0 : PH} {R : Value → PH → Prop} (H : chain_Chain_Recv_2 t0 t1 h0 R) : CallsH PG id_chain_Chain_Recv_2 #[t0, t1] h0 R :=
  callsF_by chain_Chain_Recv_2.ann 200 mix Tryz.func80 (by kernel_rfl) (by kernel_rfl) (by kernel_rfl) (by kernel_rfl) (by simp [Tryz.ntmps80]) (chain_Chain_Recv_2.eq t0 t1 h0 R) H
def chain_Chain_Recv_3 (t0 : Value) (t1 : Value) (h0 : PH) (R : Value → PH → Prop) : Prop :=
 popO (SemE PG h0 (Instr.loadAt T_p_chain_Chain t0)) fun v1 =>
 popO (SemP PG (nilS v1)) fun v2 =>
 popO (SemP PG (Instr.fieldAt T_chain_Chain v2 0)) fun v3 =>
 popO (SemP PG (Instr.fieldAt T_chain_ledger v3 0)) fun v4 =>
 popO (SemE PG h0 (Instr.loadAt T_p_store_Store v4)) fun v5 =>
 popO (SemP PG (Instr.fieldAt T_api_Packet t1 1)) fun v6 =>
 popO (SemE PG h0 (Instr.loadAt T_uint64 v6)) fun v7 =>
 CallsH PG id_packet_Received #[v7] h0 fun v8 h9 =>
 SemE PG h9 (Instr.loadAt T_p_store_Store v4) = some v5 ∧ SemE PG h9 (Instr.loadAt T_p_chain_Chain t0) = some v1 ∧ (CallsH PG id_store_Store_Get #[v5, v8] h9 fun v10 h11 =>
 (popO (SemP PG (Instr.extract v10 0)) fun v12 =>
 popO (SemP PG (Instr.extract v10 1)) fun v13 =>
 popO (SemP PG (Op.unary UnOp.not v13)) fun v14 =>
 R v14 h11))
def chain_Chain_Recv_3.ann : Ann := { b := fun i => match i with | 1 => #[0, 1, 3, 7, 15, 0, 32, 96, 255, 511, 1023, 1023, 2047, 8191] | _ => #[], ord := fun i => match i with | 1 => [0, 1, 2, 3, 4, 5, 6, 7, 8, 9, 10, 11, 12, 13] | _ => [], keep := fun i => match i with  | _ => [], n := 19 }
theorem chain_Chain_Recv_3.eq (t0 : Value) (t1 : Value) (h0 : PH) (R : Value → PH → Prop) : codeF PG chain_Chain_Recv_3.ann 200 (bodyOf Tryz.f81) (endH PG Tryz.f81 R) (fun t => (#[t0, t1] : Array Value).getD t undef) h0 = chain_Chain_Recv_3 t0 t1 h0 R := by kernel_rfl
theorem chain_Chain_Recv_3.call {t0 : Value} {t1 : Value} {h0 : PH} {R : Value → PH → Prop} (H : chain_Chain_Recv_3 t0 t1 h0 R) : CallsH PG id_chain_Chain_Recv_3 #[t0, t1] h0 R :=
  callsF_by chain_Chain_Recv_3.ann 200 mix Tryz.func81 (by kernel_rfl) (by kernel_rfl) (by kernel_rfl) (by kernel_rfl) (by simp [Tryz.ntmps81]) (chain_Chain_Recv_3.eq t0 t1 h0 R) H
def store_Store_Get (t0 : Value) (t1 : Value) (h0 : PH) (R : Value → PH → Prop) : Prop :=
 popO (SemP PG (nilS t0)) fun v1 =>
 popO (SemP PG (Instr.fieldAt T_store_Store v1 0)) fun v2 =>
 popO (SemE PG h0 (Instr.loadAt T_map_string_string v2)) fun v3 =>
 popO (SemE PG h0 (Instr.lookup T_map_string_string v3 t1 true)) fun v4 =>
 popO (SemP PG (Instr.extract v4 0)) fun v5 =>
 popO (SemP PG (Instr.extract v4 1)) fun v6 =>
 R (Value.tuple #[v5, v6]) h0
def store_Store_Get.ann : Ann := { b := fun i => match i with  | _ => #[], ord := fun i => match i with  | _ => [], keep := fun i => match i with  | _ => [], n := 19 }
theorem store_Store_Get.eq (t0 : Value) (t1 : Value) (h0 : PH) (R : Value → PH → Prop) : codeF PG store_Store_Get.ann 200 (bodyOf Tryz.f15) (endH PG Tryz.f15 R) (fun t => (#[t0, t1] : Array Value).getD t undef) h0 = store_Store_Get t0 t1 h0 R := by kernel_rfl
theorem store_Store_Get.call {t0 : Value} {t1 : Value} {h0 : PH} {R : Value → PH → Prop} (H : store_Store_Get t0 t1 h0 R) : CallsH PG id_store_Store_Get #[t0, t1] h0 R :=
  callsF_by store_Store_Get.ann 200 mix Tryz.func15 (by kernel_rfl) (by kernel_rfl) (by kernel_rfl) (by kernel_rfl) (by simp [Tryz.ntmps15]) (store_Store_Get.eq t0 t1 h0 R) H
def packet_Received (t0 : Value) (h0 : PH) (R : Value → PH → Prop) : Prop :=
 CallsH PG id_packet_key #[(Value.string { data := #[114] }), t0] h0 fun v1 h2 =>
 R v1 h2
def packet_Received.ann : Ann := { b := fun i => match i with  | _ => #[], ord := fun i => match i with  | _ => [], keep := fun i => match i with  | _ => [], n := 5 }
theorem packet_Received.eq (t0 : Value) (h0 : PH) (R : Value → PH → Prop) : codeF PG packet_Received.ann 200 (bodyOf Tryz.f82) (endH PG Tryz.f82 R) (fun t => (#[t0] : Array Value).getD t undef) h0 = packet_Received t0 h0 R := by kernel_rfl
theorem packet_Received.call {t0 : Value} {h0 : PH} {R : Value → PH → Prop} (H : packet_Received t0 h0 R) : CallsH PG id_packet_Received #[t0] h0 R :=
  callsF_by packet_Received.ann 200 mix Tryz.func82 (by kernel_rfl) (by kernel_rfl) (by kernel_rfl) (by kernel_rfl) (by simp [Tryz.ntmps82]) (packet_Received.eq t0 h0 R) H
def chain_Chain_Recv_4 (t0 : Value) (h0 : PH) (R : Value → PH → Prop) : Prop :=
 popO (SemE PG h0 (Instr.loadAt T_p_chain_Chain t0)) fun v1 =>
 popO (SemP PG (nilS v1)) fun v2 =>
 popO (SemP PG (Instr.fieldAt T_chain_Chain v2 0)) fun v3 =>
 CallsH PG id_chain_ledger_room #[v3, (Value.int IntKind.i64 2)] h0 fun v4 h5 =>
 R v4 h5
def chain_Chain_Recv_4.ann : Ann := { b := fun i => match i with  | _ => #[], ord := fun i => match i with  | _ => [], keep := fun i => match i with  | _ => [], n := 6 }
theorem chain_Chain_Recv_4.eq (t0 : Value) (h0 : PH) (R : Value → PH → Prop) : codeF PG chain_Chain_Recv_4.ann 200 (bodyOf Tryz.f83) (endH PG Tryz.f83 R) (fun t => (#[t0] : Array Value).getD t undef) h0 = chain_Chain_Recv_4 t0 h0 R := by kernel_rfl
theorem chain_Chain_Recv_4.call {t0 : Value} {h0 : PH} {R : Value → PH → Prop} (H : chain_Chain_Recv_4 t0 h0 R) : CallsH PG id_chain_Chain_Recv_4 #[t0] h0 R :=
  callsF_by chain_Chain_Recv_4.ann 200 mix Tryz.func83 (by kernel_rfl) (by kernel_rfl) (by kernel_rfl) (by kernel_rfl) (by simp [Tryz.ntmps83]) (chain_Chain_Recv_4.eq t0 h0 R) H
def packet_Answered (t0 : Value) (h0 : PH) (R : Value → PH → Prop) : Prop :=
 CallsH PG id_packet_key #[(Value.string { data := #[97] }), t0] h0 fun v1 h2 =>
 R v1 h2
def packet_Answered.ann : Ann := { b := fun i => match i with  | _ => #[], ord := fun i => match i with  | _ => [], keep := fun i => match i with  | _ => [], n := 5 }
theorem packet_Answered.eq (t0 : Value) (h0 : PH) (R : Value → PH → Prop) : codeF PG packet_Answered.ann 200 (bodyOf Tryz.f84) (endH PG Tryz.f84 R) (fun t => (#[t0] : Array Value).getD t undef) h0 = packet_Answered t0 h0 R := by kernel_rfl
theorem packet_Answered.call {t0 : Value} {h0 : PH} {R : Value → PH → Prop} (H : packet_Answered t0 h0 R) : CallsH PG id_packet_Answered #[t0] h0 R :=
  callsF_by packet_Answered.ann 200 mix Tryz.func84 (by kernel_rfl) (by kernel_rfl) (by kernel_rfl) (by kernel_rfl) (by simp [Tryz.ntmps84]) (packet_Answered.eq t0 h0 R) H
def packet_Answer (t0 : Value) (h0 : PH) (R : Value → PH → Prop) : Prop :=
 ∀ r1, h0 r1 = none → bindH (PH.set h0 r1 (.cells (Value.cells t0) T_api_Packet)) fun h2 =>
 popO (SemE PG h2 (Instr.loadAt T_api_Packet (Value.pointer (some ⟨r1, 0, none⟩)))) fun v3 =>
 popO (SemA PG (Instr.buildSlice T_sl_string 1 #[(0, (Value.string { data := #[97, 99, 107] }))])) fun x5 => ∀ r4, h2 r4 = none → popO (SemP PG (x5.2 r4)) fun v6 => bindH (PH.set h2 r4 x5.1) fun h7 =>
 CallsH PG id_packet_digest #[v3, v6] h7 fun v8 h9 =>
 R v8 h9
def packet_Answer.ann : Ann := { b := fun i => match i with  | _ => #[], ord := fun i => match i with  | _ => [], keep := fun i => match i with  | _ => [], n := 6 }
theorem packet_Answer.eq (t0 : Value) (h0 : PH) (R : Value → PH → Prop) : codeF PG packet_Answer.ann 200 (bodyOf Tryz.f85) (endH PG Tryz.f85 R) (fun t => (#[t0] : Array Value).getD t undef) h0 = packet_Answer t0 h0 R := by kernel_rfl
theorem packet_Answer.call {t0 : Value} {h0 : PH} {R : Value → PH → Prop} (H : packet_Answer t0 h0 R) : CallsH PG id_packet_Answer #[t0] h0 R :=
  callsF_by packet_Answer.ann 200 mix Tryz.func85 (by kernel_rfl) (by kernel_rfl) (by kernel_rfl) (by kernel_rfl) (by simp [Tryz.ntmps85]) (packet_Answer.eq t0 h0 R) H
def chain_Chain_Ack (t0 : Value) (t1 : Value) (t2 : Value) (t3 : Value) (h0 : PH) (R : Value → PH → Prop) : Prop :=
 ∀ r1, h0 r1 = none → bindH (PH.set h0 r1 (.cells (Value.cells t1) T_api_Packet)) fun h2 =>
 ∀ r3, h2 r3 = none → bindH (PH.set h2 r3 (.cells (Value.cells t2) T_string)) fun h4 =>
 popO (SemP PG (Instr.makeFunc (Fn.func id_chain_Chain_Ack_1) #[] #[(Value.pointer (some ⟨r3, 0, none⟩)), (Value.pointer (some ⟨r1, 0, none⟩))])) fun v5 =>
 CallsH PG id_chain_Chain_proved #[t0, t3, v5] h4 fun v6 h7 =>
 popO (SemP PG (Instr.extract v6 0)) fun v8 =>
 popO (SemP PG (Instr.extract v6 1)) fun v9 =>
 ∀ r10, h7 r10 = none → bindH (PH.set h7 r10 (.cells (zcells PG T_chain_rule) T_chain_rule)) fun h11 =>
 ∀ r12, h11 r12 = none → bindH (PH.set h11 r12 (.cells (zcells PG T_chain_rule) T_chain_rule)) fun h13 =>
 SemH PG (storeS T_chain_rule (Value.pointer (some ⟨r10, 0, none⟩)) v8) h13 fun v14 h15 =>
 SemH PG (storeS T_chain_rule (Value.pointer (some ⟨r12, 0, none⟩)) v9) h15 fun v16 h17 =>
 popO (SemE PG h17 (Instr.loadAt T_api_Packet (Value.pointer (some ⟨r1, 0, none⟩)))) fun v18 =>
 popO (SemE PG h17 (Instr.loadAt T_chain_rule (Value.pointer (some ⟨r10, 0, none⟩)))) fun v19 =>
 popO (SemE PG h17 (Instr.loadAt T_chain_rule (Value.pointer (some ⟨r12, 0, none⟩)))) fun v20 =>
 popO (SemA PG (Instr.buildSlice T_sl_chain_rule 2 #[(0, v19), (1, v20)])) fun x22 => ∀ r21, h17 r21 = none → popO (SemP PG (x22.2 r21)) fun v23 => bindH (PH.set h17 r21 x22.1) fun h24 =>
 CallsH PG id_chain_Chain_settle #[t0, (Value.int IntKind.i64 3), v18, v23] h24 fun v25 h26 =>
 R v25 h26
def chain_Chain_Ack.ann : Ann := { b := fun i => match i with  | _ => #[], ord := fun i => match i with  | _ => [], keep := fun i => match i with  | _ => [], n := 24 }
theorem chain_Chain_Ack.eq (t0 : Value) (t1 : Value) (t2 : Value) (t3 : Value) (h0 : PH) (R : Value → PH → Prop) : codeF PG chain_Chain_Ack.ann 200 (bodyOf Tryz.f37) (endH PG Tryz.f37 R) (fun t => (#[t0, t1, t2, t3] : Array Value).getD t undef) h0 = chain_Chain_Ack t0 t1 t2 t3 h0 R := by kernel_rfl
theorem chain_Chain_Ack.call {t0 : Value} {t1 : Value} {t2 : Value} {t3 : Value} {h0 : PH} {R : Value → PH → Prop} (H : chain_Chain_Ack t0 t1 t2 t3 h0 R) : CallsH PG id_chain_Chain_Ack #[t0, t1, t2, t3] h0 R :=
  callsF_by chain_Chain_Ack.ann 200 mix Tryz.func37 (by kernel_rfl) (by kernel_rfl) (by kernel_rfl) (by kernel_rfl) (by simp [Tryz.ntmps37]) (chain_Chain_Ack.eq t0 t1 t2 t3 h0 R) H
def chain_Chain_Ack_1 (t0 : Value) (t1 : Value) (t2 : Value) (h0 : PH) (R : Value → PH → Prop) : Prop :=
 popO (SemE PG h0 (Instr.loadAt T_string t1)) fun v1 =>
 popO (SemP PG (Instr.fieldAt T_api_Packet t2 1)) fun v2 =>
 popO (SemE PG h0 (Instr.loadAt T_uint64 v2)) fun v3 =>
 popO (SemE PG h0 (Instr.loadAt T_api_Packet t2)) fun v4 =>
 CallsH PG id_packet_Answered #[v3] h0 fun v5 h6 =>
 SemE PG h6 (Instr.loadAt T_api_Packet t2) = some v4 ∧ SemE PG h6 (Instr.loadAt T_string t1) = some v1 ∧ (CallsH PG id_packet_Answer #[v4] h6 fun v7 h8 =>
 SemE PG h8 (Instr.loadAt T_string t1) = some v1 ∧ (CallsH PG id_proof_Has #[t0, v1, v5, v7] h8 fun v9 h10 =>
 (R v9 h10)))
def chain_Chain_Ack_1.ann : Ann := { b := fun i => match i with | 1 => #[0, 0, 0, 4, 12, 0, 60, 127, 255] | _ => #[], ord := fun i => match i with | 1 => [0, 1, 2, 3, 5, 4, 6, 7, 8] | _ => [], keep := fun i => match i with  | _ => [], n := 13 }
theorem chain_Chain_Ack_1.eq (t0 : Value) (t1 : Value) (t2 : Value) (h0 : PH) (R : Value → PH → Prop) : codeF PG chain_Chain_Ack_1.ann 200 (bodyOf Tryz.f86) (endH PG Tryz.f86 R) (fun t => (#[t0, t1, t2] : Array Value).getD t undef) h0 = chain_Chain_Ack_1 t0 t1 t2 h0 R := by kernel_rfl
theorem chain_Chain_Ack_1.call {t0 : Value} {t1 : Value} {t2 : Value} {h0 : PH} {R : Value → PH → Prop} (H : chain_Chain_Ack_1 t0 t1 t2 h0 R) : CallsH PG id_chain_Chain_Ack_1 #[t0, t1, t2] h0 R :=
  callsF_by chain_Chain_Ack_1.ann 200 mix Tryz.func86 (by kernel_rfl) (by kernel_rfl) (by kernel_rfl) (by kernel_rfl) (by simp [Tryz.ntmps86]) (chain_Chain_Ack_1.eq t0 t1 t2 h0 R) H
def chain_Chain_settle_k32 (R : Value → PH → Prop) (t9 : Value) (h0 : PH) : Prop :=
 R t9 h0
def chain_Chain_settle (t0 : Value) (t1 : Value) (t2 : Value) (t3 : Value) (h0 : PH) (R : Value → PH → Prop) : Prop :=
 ∀ r1, h0 r1 = none → bindH (PH.set h0 r1 (.cells (Value.cells t2) T_api_Packet)) fun h2 =>
 popO (SemE PG h2 (Instr.loadAt T_api_Packet (Value.pointer (some ⟨r1, 0, none⟩)))) fun v3 =>
 popO (SemP PG (nilS t0)) fun v4 =>
 popO (SemP PG (Instr.fieldAt T_chain_Chain v4 1)) fun v5 =>
 popO (SemE PG h2 (Instr.loadAt T_int v5)) fun v6 =>
 popO (SemE PG h2 (Instr.loadAt T_api_Packet (Value.pointer (some ⟨r1, 0, none⟩)))) fun v7 =>
 CallsH PG id_chain_from #[v3, v6] h2 fun v8 h9 =>
 SemE PG h9 (Instr.loadAt T_api_Packet (Value.pointer (some ⟨r1, 0, none⟩))) = some v7 ∧ (CallsH PG id_chain_Chain_sent #[t0, v7] h9 fun v10 h11 =>
 (popO (SemA PG (Instr.buildSlice T_sl_chain_rule 2 #[(0, v8), (1, v10)])) fun x13 => ∀ r12, h11 r12 = none → popO (SemP PG (x13.2 r12)) fun v14 => bindH (PH.set h11 r12 x13.1) fun h15 =>
 SemH PG (Builtin.append_ #[T_sl_chain_rule, T_sl_chain_rule] T_sl_chain_rule #[v14, t3]) h15 fun v16 h17 =>
 (CallsH PG id_chain_Chain_all #[t0, v16] h17 fun v18 h19 =>
 (popO (SemE PG h19 (binS BinOp.eql T_api_Errno (.tmp 24) (.const (Value.int IntKind.i64 0)) v18 (Value.int IntKind.i64 0))) fun v20 =>
 condV v20
 (popO (SemP PG (nilS t0)) fun v21 =>
 popO (SemP PG (Instr.fieldAt T_chain_Chain v21 0)) fun v22 =>
 popO (SemP PG (Instr.fieldAt T_api_Packet (Value.pointer (some ⟨r1, 0, none⟩)) 1)) fun v23 =>
 popO (SemE PG h19 (Instr.loadAt T_uint64 v23)) fun v24 =>
 CallsH PG id_packet_Sent #[v24] h19 fun v25 h26 =>
 (CallsH PG id_chain_ledger_drop #[v22, v25] h26 fun v27 h28 =>
 (popO (SemE PG h28 (Instr.loadAt T_api_Packet (Value.pointer (some ⟨r1, 0, none⟩)))) fun v29 =>
 CallsH PG id_chain_Chain_note #[t0, t1, v29] h28 fun v30 h31 =>
 chain_Chain_settle_k32 R v18 h31)))
 (chain_Chain_settle_k32 R v18 h19)))))
def chain_Chain_settle.ann : Ann := { b := fun i => match i with | 1 => #[0, 0, 0, 4, 12, 28, 62, 0, 0, 510, 1022, 0, 4094, 8191, 16383] | 3 => #[0, 1, 3, 0, 8, 24, 63] | _ => #[], ord := fun i => match i with | 1 => [0, 1, 2, 3, 4, 5, 7, 8, 11, 6, 9, 10, 12, 13, 14] | 3 => [0, 1, 2, 3, 4, 5, 6] | _ => [], keep := fun i => match i with  | _ => [], n := 38 }
theorem chain_Chain_settle.eq (t0 : Value) (t1 : Value) (t2 : Value) (t3 : Value) (h0 : PH) (R : Value → PH → Prop) : codeF PG chain_Chain_settle.ann 200 (bodyOf Tryz.f87) (endH PG Tryz.f87 R) (fun t => (#[t0, t1, t2, t3] : Array Value).getD t undef) h0 = chain_Chain_settle t0 t1 t2 t3 h0 R := by kernel_rfl
theorem chain_Chain_settle.call {t0 : Value} {t1 : Value} {t2 : Value} {t3 : Value} {h0 : PH} {R : Value → PH → Prop} (H : chain_Chain_settle t0 t1 t2 t3 h0 R) : CallsH PG id_chain_Chain_settle #[t0, t1, t2, t3] h0 R :=
  callsF_by chain_Chain_settle.ann 200 mix Tryz.func87 (by kernel_rfl) (by kernel_rfl) (by kernel_rfl) (by kernel_rfl) (by simp [Tryz.ntmps87]) (chain_Chain_settle.eq t0 t1 t2 t3 h0 R) H
def chain_Chain_sent (t0 : Value) (t1 : Value) (h0 : PH) (R : Value → PH → Prop) : Prop :=
 ∀ r1, h0 r1 = none → bindH (PH.set h0 r1 (.cells (Value.cells t0) T_p_chain_Chain)) fun h2 =>
 ∀ r3, h2 r3 = none → bindH (PH.set h2 r3 (.cells (Value.cells t1) T_api_Packet)) fun h4 =>
 ∀ r5, h4 r5 = none → bindH (PH.set h4 r5 (.cells (zcells PG T_chain_rule) T_chain_rule)) fun h6 =>
 popO (SemP PG (Instr.makeFunc (Fn.func id_chain_Chain_sent_1) #[] #[(Value.pointer (some ⟨r1, 0, none⟩)), (Value.pointer (some ⟨r3, 0, none⟩))])) fun v7 =>
 popO (SemP PG (Instr.build T_chain_rule #[(0, v7), (1, (Value.int IntKind.i64 3))])) fun v8 =>
 SemH PG (storeS T_chain_rule (Value.pointer (some ⟨r5, 0, none⟩)) v8) h6 fun v9 h10 =>
 popO (SemE PG h10 (Instr.loadAt T_chain_rule (Value.pointer (some ⟨r5, 0, none⟩)))) fun v11 =>
 R v11 h10
def chain_Chain_sent.ann : Ann := { b := fun i => match i with  | _ => #[], ord := fun i => match i with  | _ => [], keep := fun i => match i with  | _ => [], n := 7 }
theorem chain_Chain_sent.eq (t0 : Value) (t1 : Value) (h0 : PH) (R : Value → PH → Prop) : codeF PG chain_Chain_sent.ann 200 (bodyOf Tryz.f147) (endH PG Tryz.f147 R) (fun t => (#[t0, t1] : Array Value).getD t undef) h0 = chain_Chain_sent t0 t1 h0 R := by kernel_rfl
theorem chain_Chain_sent.call {t0 : Value} {t1 : Value} {h0 : PH} {R : Value → PH → Prop} (H : chain_Chain_sent t0 t1 h0 R) : CallsH PG id_chain_Chain_sent #[t0, t1] h0 R :=
  callsF_by chain_Chain_sent.ann 200 mix Tryz.func147 (by kernel_rfl) (by kernel_rfl) (by kernel_rfl) (by kernel_rfl) (by simp [Tryz.ntmps147]) (chain_Chain_sent.eq t0 t1 h0 R) H
def chain_Chain_sent_1 (t0 : Value) (t1 : Value) (h0 : PH) (R : Value → PH → Prop) : Prop :=
 popO (SemE PG h0 (Instr.loadAt T_p_chain_Chain t0)) fun v1 =>
 popO (SemP PG (nilS v1)) fun v2 =>
 popO (SemP PG (Instr.fieldAt T_chain_Chain v2 0)) fun v3 =>
 popO (SemP PG (Instr.fieldAt T_chain_ledger v3 0)) fun v4 =>
 popO (SemE PG h0 (Instr.loadAt T_p_store_Store v4)) fun v5 =>
 popO (SemP PG (Instr.fieldAt T_api_Packet t1 1)) fun v6 =>
 popO (SemE PG h0 (Instr.loadAt T_uint64 v6)) fun v7 =>
 CallsH PG id_packet_Sent #[v7] h0 fun v8 h9 =>
 SemE PG h9 (Instr.loadAt T_p_store_Store v4) = some v5 ∧ SemE PG h9 (Instr.loadAt T_p_chain_Chain t0) = some v1 ∧ (CallsH PG id_store_Store_Get #[v5, v8] h9 fun v10 h11 =>
 (popO (SemP PG (Instr.extract v10 0)) fun v12 =>
 popO (SemP PG (Instr.extract v10 1)) fun v13 =>
 gopV (yV v13) true (fun k16 => k16 v12 h11) h11 fun v14 h15 =>
 gopV (yV v13) true (fun k19 => popO (SemE PG h15 (Instr.loadAt T_api_Packet t1)) fun v20 => k19 v20 h15) h15 fun v17 h18 =>
 gopV (yV v13) true (fun k23 => CallsH PG id_packet_Commitment #[v17] h18 fun v24 h25 => k23 v24 h25) h18 fun v21 h22 =>
 gopV (yV v13) true (fun k28 => popO (SemE PG h22 (binS BinOp.eql T_string (.tmp 19) (.tmp 21) v14 v21)) fun v29 => k28 v29 h22) h22 fun v26 h27 =>
 popO (pickV v13 v26 (Value.bool false)) fun v30 =>
 R v30 h27))
def chain_Chain_sent_1.ann : Ann := { b := fun i => match i with | 1 => #[0, 1, 3, 7, 15, 0, 32, 96, 255, 511, 1023, 1023, 2047, 8191] | _ => #[], ord := fun i => match i with | 1 => [0, 1, 2, 3, 4, 5, 6, 7, 8, 9, 10, 11, 12, 13] | _ => [], keep := fun i => match i with  | _ => [], n := 24 }
theorem chain_Chain_sent_1.eq (t0 : Value) (t1 : Value) (h0 : PH) (R : Value → PH → Prop) : codeF PG chain_Chain_sent_1.ann 200 (bodyOf Tryz.f196) (endH PG Tryz.f196 R) (fun t => (#[t0, t1] : Array Value).getD t undef) h0 = chain_Chain_sent_1 t0 t1 h0 R := by kernel_rfl
theorem chain_Chain_sent_1.call {t0 : Value} {t1 : Value} {h0 : PH} {R : Value → PH → Prop} (H : chain_Chain_sent_1 t0 t1 h0 R) : CallsH PG id_chain_Chain_sent_1 #[t0, t1] h0 R :=
  callsF_by chain_Chain_sent_1.ann 200 mix Tryz.func196 (by kernel_rfl) (by kernel_rfl) (by kernel_rfl) (by kernel_rfl) (by simp [Tryz.ntmps196]) (chain_Chain_sent_1.eq t0 t1 h0 R) H
def chain_ledger_drop (t0 : Value) (t1 : Value) (h0 : PH) (R : Value → PH → Prop) : Prop :=
 popO (SemP PG (nilS t0)) fun v1 =>
 popO (SemP PG (Instr.fieldAt T_chain_ledger v1 4)) fun v2 =>
 popO (SemE PG h0 (Instr.loadAt T_map_string_string v2)) fun v3 =>
 SemH PG (Builtin.delete_ #[T_map_string_string, T_string] T_ #[v3, t1]) h0 fun v4 h5 =>
 popO (SemP PG (nilS t0)) fun v6 =>
 popO (SemP PG (Instr.fieldAt T_chain_ledger v6 0)) fun v7 =>
 popO (SemE PG h5 (Instr.loadAt T_p_store_Store v7)) fun v8 =>
 CallsH PG id_store_Store_Delete #[v8, t1] h5 fun v9 h10 =>
 R (Value.tuple #[]) h10
def chain_ledger_drop.ann : Ann := { b := fun i => match i with  | _ => #[], ord := fun i => match i with  | _ => [], keep := fun i => match i with  | _ => [], n := 15 }
theorem chain_ledger_drop.eq (t0 : Value) (t1 : Value) (h0 : PH) (R : Value → PH → Prop) : codeF PG chain_ledger_drop.ann 200 (bodyOf Tryz.f148) (endH PG Tryz.f148 R) (fun t => (#[t0, t1] : Array Value).getD t undef) h0 = chain_ledger_drop t0 t1 h0 R := by kernel_rfl
theorem chain_ledger_drop.call {t0 : Value} {t1 : Value} {h0 : PH} {R : Value → PH → Prop} (H : chain_ledger_drop t0 t1 h0 R) : CallsH PG id_chain_ledger_drop #[t0, t1] h0 R :=
  callsF_by chain_ledger_drop.ann 200 mix Tryz.func148 (by kernel_rfl) (by kernel_rfl) (by kernel_rfl) (by kernel_rfl) (by simp [Tryz.ntmps148]) (chain_ledger_drop.eq t0 t1 h0 R) H
def store_Store_Delete (t0 : Value) (t1 : Value) (h0 : PH) (R : Value → PH → Prop) : Prop :=
 popO (SemP PG (nilS t0)) fun v1 =>
 popO (SemP PG (Instr.fieldAt T_store_Store v1 0)) fun v2 =>
 popO (SemE PG h0 (Instr.loadAt T_map_string_string v2)) fun v3 =>
 popO (SemE PG h0 (Instr.lookup T_map_string_string v3 t1 true)) fun v4 =>
 popO (SemP PG (Instr.extract v4 0)) fun v5 =>
 popO (SemP PG (Instr.extract v4 1)) fun v6 =>
 popO (SemP PG (Op.unary UnOp.not v6)) fun v7 =>
 condV v7
 (R (Value.int IntKind.i64 3) h0)
 (popO (SemP PG (nilS t0)) fun v8 =>
 popO (SemP PG (Instr.fieldAt T_store_Store v8 0)) fun v9 =>
 popO (SemE PG h0 (Instr.loadAt T_map_string_string v9)) fun v10 =>
 SemH PG (Builtin.delete_ #[T_map_string_string, T_string] T_ #[v10, t1]) h0 fun v11 h12 =>
 R (Value.int IntKind.i64 0) h12)
def store_Store_Delete.ann : Ann := { b := fun i => match i with  | _ => #[], ord := fun i => match i with  | _ => [], keep := fun i => match i with  | _ => [], n := 23 }
theorem store_Store_Delete.eq (t0 : Value) (t1 : Value) (h0 : PH) (R : Value → PH → Prop) : codeF PG store_Store_Delete.ann 200 (bodyOf Tryz.f197) (endH PG Tryz.f197 R) (fun t => (#[t0, t1] : Array Value).getD t undef) h0 = store_Store_Delete t0 t1 h0 R := by kernel_rfl
theorem store_Store_Delete.call {t0 : Value} {t1 : Value} {h0 : PH} {R : Value → PH → Prop} (H : store_Store_Delete t0 t1 h0 R) : CallsH PG id_store_Store_Delete #[t0, t1] h0 R :=
  callsF_by store_Store_Delete.ann 200 mix Tryz.func197 (by kernel_rfl) (by kernel_rfl) (by kernel_rfl) (by kernel_rfl) (by simp [Tryz.ntmps197]) (store_Store_Delete.eq t0 t1 h0 R) H
def chain_Chain_Timeout (t0 : Value) (t1 : Value) (t2 : Value) (t3 : Value) (h0 : PH) (R : Value → PH → Prop) : Prop :=
 ∀ r1, h0 r1 = none → bindH (PH.set h0 r1 (.cells (Value.cells t1) T_api_Packet)) fun h2 =>
 ∀ r3, h2 r3 = none → bindH (PH.set h2 r3 (.cells (Value.cells t2) T_string)) fun h4 =>
 ∀ r5, h4 r5 = none → bindH (PH.set h4 r5 (.cells (Value.cells t3) T_uint64)) fun h6 =>
 popO (SemE PG h6 (Instr.loadAt T_uint64 (Value.pointer (some ⟨r5, 0, none⟩)))) fun v7 =>
 popO (SemP PG (Instr.makeFunc (Fn.func id_chain_Chain_Timeout_1) #[] #[(Value.pointer (some ⟨r3, 0, none⟩)), (Value.pointer (some ⟨r1, 0, none⟩))])) fun v8 =>
 CallsH PG id_chain_Chain_proved #[t0, v7, v8] h6 fun v9 h10 =>
 popO (SemP PG (Instr.extract v9 0)) fun v11 =>
 popO (SemP PG (Instr.extract v9 1)) fun v12 =>
 ∀ r13, h10 r13 = none → bindH (PH.set h10 r13 (.cells (zcells PG T_chain_rule) T_chain_rule)) fun h14 =>
 ∀ r15, h14 r15 = none → bindH (PH.set h14 r15 (.cells (zcells PG T_chain_rule) T_chain_rule)) fun h16 =>
 SemH PG (storeS T_chain_rule (Value.pointer (some ⟨r13, 0, none⟩)) v11) h16 fun v17 h18 =>
 SemH PG (storeS T_chain_rule (Value.pointer (some ⟨r15, 0, none⟩)) v12) h18 fun v19 h20 =>
 popO (SemP PG (Instr.makeFunc (Fn.func id_chain_Chain_Timeout_2) #[] #[(Value.pointer (some ⟨r5, 0, none⟩)), (Value.pointer (some ⟨r1, 0, none⟩))])) fun v21 =>
 popO (SemP PG (Instr.build T_chain_rule #[(0, v21), (1, (Value.int IntKind.i64 11))])) fun v22 =>
 ∀ r23, h20 r23 = none → bindH (PH.set h20 r23 (.cells (zcells PG T_chain_rule) T_chain_rule)) fun h24 =>
 SemH PG (storeS T_chain_rule (Value.pointer (some ⟨r23, 0, none⟩)) v22) h24 fun v25 h26 =>
 popO (SemE PG h26 (Instr.loadAt T_api_Packet (Value.pointer (some ⟨r1, 0, none⟩)))) fun v27 =>
 popO (SemE PG h26 (Instr.loadAt T_chain_rule (Value.pointer (some ⟨r23, 0, none⟩)))) fun v28 =>
 popO (SemE PG h26 (Instr.loadAt T_chain_rule (Value.pointer (some ⟨r13, 0, none⟩)))) fun v29 =>
 popO (SemE PG h26 (Instr.loadAt T_chain_rule (Value.pointer (some ⟨r15, 0, none⟩)))) fun v30 =>
 popO (SemA PG (Instr.buildSlice T_sl_chain_rule 3 #[(0, v28), (1, v29), (2, v30)])) fun x32 => ∀ r31, h26 r31 = none → popO (SemP PG (x32.2 r31)) fun v33 => bindH (PH.set h26 r31 x32.1) fun h34 =>
 CallsH PG id_chain_Chain_settle #[t0, (Value.int IntKind.i64 4), v27, v33] h34 fun v35 h36 =>
 R v35 h36
def chain_Chain_Timeout.ann : Ann := { b := fun i => match i with  | _ => #[], ord := fun i => match i with  | _ => [], keep := fun i => match i with  | _ => [], n := 28 }
theorem chain_Chain_Timeout.eq (t0 : Value) (t1 : Value) (t2 : Value) (t3 : Value) (h0 : PH) (R : Value → PH → Prop) : codeF PG chain_Chain_Timeout.ann 200 (bodyOf Tryz.f38) (endH PG Tryz.f38 R) (fun t => (#[t0, t1, t2, t3] : Array Value).getD t undef) h0 = chain_Chain_Timeout t0 t1 t2 t3 h0 R := by kernel_rfl
theorem chain_Chain_Timeout.call {t0 : Value} {t1 : Value} {t2 : Value} {t3 : Value} {h0 : PH} {R : Value → PH → Prop} (H : chain_Chain_Timeout t0 t1 t2 t3 h0 R) : CallsH PG id_chain_Chain_Timeout #[t0, t1, t2, t3] h0 R :=
  callsF_by chain_Chain_Timeout.ann 200 mix Tryz.func38 (by kernel_rfl) (by kernel_rfl) (by kernel_rfl) (by kernel_rfl) (by simp [Tryz.ntmps38]) (chain_Chain_Timeout.eq t0 t1 t2 t3 h0 R) H
def chain_Chain_Timeout_1 (t0 : Value) (t1 : Value) (t2 : Value) (h0 : PH) (R : Value → PH → Prop) : Prop :=
 popO (SemE PG h0 (Instr.loadAt T_string t1)) fun v1 =>
 popO (SemP PG (Instr.fieldAt T_api_Packet t2 1)) fun v2 =>
 popO (SemE PG h0 (Instr.loadAt T_uint64 v2)) fun v3 =>
 CallsH PG id_packet_Received #[v3] h0 fun v4 h5 =>
 SemE PG h5 (Instr.loadAt T_string t1) = some v1 ∧ (CallsH PG id_proof_Lacks #[t0, v1, v4] h5 fun v6 h7 =>
 (R v6 h7))
def chain_Chain_Timeout_1.ann : Ann := { b := fun i => match i with | 1 => #[0, 0, 0, 4, 12, 31, 63] | _ => #[], ord := fun i => match i with | 1 => [0, 1, 2, 3, 4, 5, 6] | _ => [], keep := fun i => match i with  | _ => [], n := 11 }
theorem chain_Chain_Timeout_1.eq (t0 : Value) (t1 : Value) (t2 : Value) (h0 : PH) (R : Value → PH → Prop) : codeF PG chain_Chain_Timeout_1.ann 200 (bodyOf Tryz.f88) (endH PG Tryz.f88 R) (fun t => (#[t0, t1, t2] : Array Value).getD t undef) h0 = chain_Chain_Timeout_1 t0 t1 t2 h0 R := by kernel_rfl
theorem chain_Chain_Timeout_1.call {t0 : Value} {t1 : Value} {t2 : Value} {h0 : PH} {R : Value → PH → Prop} (H : chain_Chain_Timeout_1 t0 t1 t2 h0 R) : CallsH PG id_chain_Chain_Timeout_1 #[t0, t1, t2] h0 R :=
  callsF_by chain_Chain_Timeout_1.ann 200 mix Tryz.func88 (by kernel_rfl) (by kernel_rfl) (by kernel_rfl) (by kernel_rfl) (by simp [Tryz.ntmps88]) (chain_Chain_Timeout_1.eq t0 t1 t2 h0 R) H
def proof_Lacks (t0 : Value) (t1 : Value) (t2 : Value) (h0 : PH) (R : Value → PH → Prop) : Prop :=
 CallsH PG id_proof_Parse #[t1] h0 fun v1 h2 =>
 popO (SemP PG (Instr.extract v1 0)) fun v3 =>
 popO (SemP PG (Instr.extract v1 1)) fun v4 =>
 ∀ r5, h2 r5 = none → bindH (PH.set h2 r5 (.cells (zcells PG T_api_Proof) T_api_Proof)) fun h6 =>
 SemH PG (storeS T_api_Proof (Value.pointer (some ⟨r5, 0, none⟩)) v3) h6 fun v7 h8 =>
 popO (SemE PG h8 (binS BinOp.neq T_api_Errno (.tmp 15) (.const (Value.int IntKind.i64 0)) v4 (Value.int IntKind.i64 0))) fun v9 =>
 gopV (yV v9) false (fun k12 => popO (SemP PG (Instr.fieldAt T_api_Proof (Value.pointer (some ⟨r5, 0, none⟩)) 0)) fun v13 => k12 v13 h8) h8 fun v10 h11 =>
 gopV (yV v9) false (fun k16 => popO (SemE PG h11 (Instr.loadAt T_bool v10)) fun v17 => k16 v17 h11) h11 fun v14 h15 =>
 gopV (yV v9) false (fun k20 => popO (SemP PG (Op.unary UnOp.not v14)) fun v21 => k20 v21 h15) h15 fun v18 h19 =>
 popO (pickV v9 (Value.bool true) v18) fun v22 =>
 gopV (yV v22) false (fun k25 => k25 t2 h19) h19 fun v23 h24 =>
 gopV (yV v22) false (fun k28 => popO (SemP PG (Builtin.len_ #[T_string] T_int #[v23])) fun v29 => k28 v29 h24) h24 fun v26 h27 =>
 gopV (yV v22) false (fun k32 => popO (SemP PG (binOp BinOp.lss T_int v26 (Value.int IntKind.i64 1))) fun v33 => k32 v33 h27) h27 fun v30 h31 =>
 popO (pickV v22 (Value.bool true) v30) fun v34 =>
 gopV (yV v34) false (fun k37 => k37 t2 h31) h31 fun v35 h36 =>
 gopV (yV v34) false (fun k40 => popO (SemP PG (Builtin.len_ #[T_string] T_int #[v35])) fun v41 => k40 v41 h36) h36 fun v38 h39 =>
 gopV (yV v34) false (fun k44 => popO (SemP PG (binOp BinOp.gtr T_int v38 (Value.int IntKind.i64 16))) fun v45 => k44 v45 h39) h39 fun v42 h43 =>
 popO (pickV v34 (Value.bool true) v42) fun v46 =>
 gopV (yV v46) false (fun k49 => k49 t0 h43) h43 fun v47 h48 =>
 gopV (yV v46) false (fun k52 => popO (SemP PG (Instr.fieldAt T_api_Proof (Value.pointer (some ⟨r5, 0, none⟩)) 1)) fun v53 => k52 v53 h48) h48 fun v50 h51 =>
 gopV (yV v46) false (fun k56 => popO (SemE PG h51 (Instr.loadAt T_sl_api_Leaf v50)) fun v57 => k56 v57 h51) h51 fun v54 h55 =>
 gopV (yV v46) false (fun k60 => CallsH PG id_proof_climb #[v47, v54] h55 fun v61 h62 => k60 v61 h62) h55 fun v58 h59 =>
 gopV (yV v46) false (fun k65 => popO (SemP PG (Op.unary UnOp.not v58)) fun v66 => k65 v66 h59) h59 fun v63 h64 =>
 popO (pickV v46 (Value.bool true) v63) fun v67 =>
 condV v67
 (R (Value.bool false) h64)
 (popO (SemP PG (Instr.fieldAt T_api_Proof (Value.pointer (some ⟨r5, 0, none⟩)) 1)) fun v68 =>
 popO (SemE PG h64 (Instr.loadAt T_sl_api_Leaf v68)) fun v69 =>
 popO (SemP PG (Builtin.len_ #[T_sl_api_Leaf] T_int #[v69])) fun v70 =>
 popO (SemE PG h64 (binS BinOp.eql T_int (.tmp 42) (.const (Value.int IntKind.i64 0)) v70 (Value.int IntKind.i64 0))) fun v71 =>
 condV v71
 (CallsH PG id_merkle_Root #[(Value.slice none 0 0)] h64 fun v72 h73 =>
 popO (SemE PG h73 (binS BinOp.eql T_string (.tmp 84) (.tmp 85) t0 v72)) fun v74 =>
 R v74 h73)
 (popO (SemE PG h64 (binS BinOp.eql T_int (.tmp 42) (.const (Value.int IntKind.i64 1)) v70 (Value.int IntKind.i64 1))) fun v75 =>
 condV v75
 (popO (SemP PG (Instr.indexAt T_sl_api_Leaf v69 (Value.int IntKind.i64 0))) fun v76 =>
 popO (SemP PG (Instr.fieldAt T_api_Leaf v76 0)) fun v77 =>
 popO (SemE PG h64 (Instr.loadAt T_int v77)) fun v78 =>
 popO (SemE PG h64 (binS BinOp.eql T_int (.tmp 92) (.const (Value.int IntKind.i64 0)) v78 (Value.int IntKind.i64 0))) fun v79 =>
 gopV (yV v79) true (fun k82 => k82 t2 h64) h64 fun v80 h81 =>
 gopV (yV v79) true (fun k85 => k85 v69 h81) h81 fun v83 h84 =>
 gopV (yV v79) true (fun k88 => popO (SemP PG (Instr.indexAt T_sl_api_Leaf v83 (Value.int IntKind.i64 0))) fun v89 => k88 v89 h84) h84 fun v86 h87 =>
 gopV (yV v79) true (fun k92 => popO (SemP PG (Instr.fieldAt T_api_Leaf v86 2)) fun v93 => k92 v93 h87) h87 fun v90 h91 =>
 gopV (yV v79) true (fun k96 => popO (SemP PG (Instr.fieldAt T_api_Pair v90 0)) fun v97 => k96 v97 h91) h91 fun v94 h95 =>
 gopV (yV v79) true (fun k100 => popO (SemE PG h95 (Instr.loadAt T_string v94)) fun v101 => k100 v101 h95) h95 fun v98 h99 =>
 gopV (yV v79) true (fun k104 => popO (SemP PG (binOp BinOp.lss T_string v80 v98)) fun v105 => k104 v105 h99) h99 fun v102 h103 =>
 popO (pickV v79 v102 (Value.bool false)) fun v106 =>
 gopV (yV v106) false (fun k109 => k109 v69 h103) h103 fun v107 h108 =>
 gopV (yV v106) false (fun k112 => popO (SemP PG (Instr.indexAt T_sl_api_Leaf v107 (Value.int IntKind.i64 0))) fun v113 => k112 v113 h108) h108 fun v110 h111 =>
 gopV (yV v106) false (fun k116 => popO (SemP PG (Instr.fieldAt T_api_Leaf v110 0)) fun v117 => k116 v117 h111) h111 fun v114 h115 =>
 gopV (yV v106) false (fun k120 => popO (SemE PG h115 (Instr.loadAt T_int v114)) fun v121 => k120 v121 h115) h115 fun v118 h119 =>
 gopV (yV v106) false (fun k124 => k124 v69 h119) h119 fun v122 h123 =>
 gopV (yV v106) false (fun k127 => popO (SemP PG (Instr.indexAt T_sl_api_Leaf v122 (Value.int IntKind.i64 0))) fun v128 => k127 v128 h123) h123 fun v125 h126 =>
 gopV (yV v106) false (fun k131 => popO (SemP PG (Instr.fieldAt T_api_Leaf v125 1)) fun v132 => k131 v132 h126) h126 fun v129 h130 =>
 gopV (yV v106) false (fun k135 => popO (SemE PG h130 (Instr.loadAt T_int v129)) fun v136 => k135 v136 h130) h130 fun v133 h134 =>
 gopV (yV v106) false (fun k139 => popO (SemP PG (binOp BinOp.sub T_int v133 (Value.int IntKind.i64 1))) fun v140 => k139 v140 h134) h134 fun v137 h138 =>
 gopV (yV v106) false (fun k143 => popO (SemE PG h138 (binS BinOp.eql T_int (.tmp 107) (.tmp 112) v118 v137)) fun v144 => k143 v144 h138) h138 fun v141 h142 =>
 gopV (yV v106) false (fun k147 => k147 v141 h142) h142 fun v145 h146 =>
 gopV (yV v145) true (fun k150 => k150 v69 h146) h146 fun v148 h149 =>
 gopV (yV v145) true (fun k153 => popO (SemP PG (Instr.indexAt T_sl_api_Leaf v148 (Value.int IntKind.i64 0))) fun v154 => k153 v154 h149) h149 fun v151 h152 =>
 gopV (yV v145) true (fun k157 => popO (SemP PG (Instr.fieldAt T_api_Leaf v151 2)) fun v158 => k157 v158 h152) h152 fun v155 h156 =>
 gopV (yV v145) true (fun k161 => popO (SemP PG (Instr.fieldAt T_api_Pair v155 0)) fun v162 => k161 v162 h156) h156 fun v159 h160 =>
 gopV (yV v145) true (fun k165 => popO (SemE PG h160 (Instr.loadAt T_string v159)) fun v166 => k165 v166 h160) h160 fun v163 h164 =>
 gopV (yV v145) true (fun k169 => k169 t2 h164) h164 fun v167 h168 =>
 gopV (yV v145) true (fun k172 => popO (SemP PG (binOp BinOp.lss T_string v163 v167)) fun v173 => k172 v173 h168) h168 fun v170 h171 =>
 gopV (yV v106) false (fun k176 => popO (pickV v145 v170 (Value.bool false)) fun v177 => k176 v177 h171) h171 fun v174 h175 =>
 popO (pickV v106 (Value.bool true) v174) fun v178 =>
 R v178 h175)
 (popO (SemP PG (Instr.indexAt T_sl_api_Leaf v69 (Value.int IntKind.i64 0))) fun v179 =>
 popO (SemP PG (Instr.fieldAt T_api_Leaf v179 1)) fun v180 =>
 popO (SemE PG h64 (Instr.loadAt T_int v180)) fun v181 =>
 popO (SemP PG (Instr.indexAt T_sl_api_Leaf v69 (Value.int IntKind.i64 1))) fun v182 =>
 popO (SemP PG (Instr.fieldAt T_api_Leaf v182 1)) fun v183 =>
 popO (SemE PG h64 (Instr.loadAt T_int v183)) fun v184 =>
 popO (SemE PG h64 (binS BinOp.eql T_int (.tmp 46) (.tmp 50) v181 v184)) fun v185 =>
 gopV (yV v185) true (fun k188 => k188 v69 h64) h64 fun v186 h187 =>
 gopV (yV v185) true (fun k191 => popO (SemP PG (Instr.indexAt T_sl_api_Leaf v186 (Value.int IntKind.i64 0))) fun v192 => k191 v192 h187) h187 fun v189 h190 =>
 gopV (yV v185) true (fun k195 => popO (SemP PG (Instr.fieldAt T_api_Leaf v189 0)) fun v196 => k195 v196 h190) h190 fun v193 h194 =>
 gopV (yV v185) true (fun k199 => popO (SemE PG h194 (Instr.loadAt T_int v193)) fun v200 => k199 v200 h194) h194 fun v197 h198 =>
 gopV (yV v185) true (fun k203 => popO (SemP PG (binOp BinOp.add T_int v197 (Value.int IntKind.i64 1))) fun v204 => k203 v204 h198) h198 fun v201 h202 =>
 gopV (yV v185) true (fun k207 => k207 v69 h202) h202 fun v205 h206 =>
 gopV (yV v185) true (fun k210 => popO (SemP PG (Instr.indexAt T_sl_api_Leaf v205 (Value.int IntKind.i64 1))) fun v211 => k210 v211 h206) h206 fun v208 h209 =>
 gopV (yV v185) true (fun k214 => popO (SemP PG (Instr.fieldAt T_api_Leaf v208 0)) fun v215 => k214 v215 h209) h209 fun v212 h213 =>
 gopV (yV v185) true (fun k218 => popO (SemE PG h213 (Instr.loadAt T_int v212)) fun v219 => k218 v219 h213) h213 fun v216 h217 =>
 gopV (yV v185) true (fun k222 => popO (SemE PG h217 (binS BinOp.eql T_int (.tmp 57) (.tmp 61) v201 v216)) fun v223 => k222 v223 h217) h217 fun v220 h221 =>
 popO (pickV v185 v220 (Value.bool false)) fun v224 =>
 gopV (yV v224) true (fun k227 => k227 v69 h221) h221 fun v225 h226 =>
 gopV (yV v224) true (fun k230 => popO (SemP PG (Instr.indexAt T_sl_api_Leaf v225 (Value.int IntKind.i64 0))) fun v231 => k230 v231 h226) h226 fun v228 h229 =>
 gopV (yV v224) true (fun k234 => popO (SemP PG (Instr.fieldAt T_api_Leaf v228 2)) fun v235 => k234 v235 h229) h229 fun v232 h233 =>
 gopV (yV v224) true (fun k238 => popO (SemP PG (Instr.fieldAt T_api_Pair v232 0)) fun v239 => k238 v239 h233) h233 fun v236 h237 =>
 gopV (yV v224) true (fun k242 => popO (SemE PG h237 (Instr.loadAt T_string v236)) fun v243 => k242 v243 h237) h237 fun v240 h241 =>
 gopV (yV v224) true (fun k246 => k246 t2 h241) h241 fun v244 h245 =>
 gopV (yV v224) true (fun k249 => popO (SemP PG (binOp BinOp.lss T_string v240 v244)) fun v250 => k249 v250 h245) h245 fun v247 h248 =>
 popO (pickV v224 v247 (Value.bool false)) fun v251 =>
 gopV (yV v251) true (fun k254 => k254 t2 h248) h248 fun v252 h253 =>
 gopV (yV v251) true (fun k257 => k257 v69 h253) h253 fun v255 h256 =>
 gopV (yV v251) true (fun k260 => popO (SemP PG (Instr.indexAt T_sl_api_Leaf v255 (Value.int IntKind.i64 1))) fun v261 => k260 v261 h256) h256 fun v258 h259 =>
 gopV (yV v251) true (fun k264 => popO (SemP PG (Instr.fieldAt T_api_Leaf v258 2)) fun v265 => k264 v265 h259) h259 fun v262 h263 =>
 gopV (yV v251) true (fun k268 => popO (SemP PG (Instr.fieldAt T_api_Pair v262 0)) fun v269 => k268 v269 h263) h263 fun v266 h267 =>
 gopV (yV v251) true (fun k272 => popO (SemE PG h267 (Instr.loadAt T_string v266)) fun v273 => k272 v273 h267) h267 fun v270 h271 =>
 gopV (yV v251) true (fun k276 => popO (SemP PG (binOp BinOp.lss T_string v252 v270)) fun v277 => k276 v277 h271) h271 fun v274 h275 =>
 popO (pickV v251 v274 (Value.bool false)) fun v278 =>
 R v278 h275)))
def proof_Lacks.ann : Ann := { b := fun i => match i with | 10 => #[0, 1, 3, 7, 15, 31, 63, 63, 191, 447, 959, 1983, 4095, 8191, 16383, 32767, 65535, 131071, 262143, 32767, 557055, 1605631, 3702783, 7897087, 16777215, 33554431, 67108863, 134217727, 268435455, 536870911, 1073741823, 67108863, 4294967295, 8589934591, 17179869183, 34359738367] | 6 => #[0, 1, 3, 7, 0, 16, 48, 112, 255, 511, 1023, 2047, 4095, 8191, 16383, 1023, 33791, 99327, 230399, 524287, 1048575, 2097151, 4194303, 8388607, 16777215, 33554431, 67108863, 4194303, 268435455, 536870911, 1073741823, 2147483647, 2147483647, 6442450943, 15032385535, 32212254719, 66571993087, 137438953471, 274877906943, 549755813887] | _ => #[], ord := fun i => match i with | 10 => [0, 1, 2, 3, 4, 5, 6, 7, 8, 9, 10, 11, 12, 13, 14, 15, 16, 17, 18, 19, 20, 21, 22, 23, 24, 25, 26, 27, 28, 29, 30, 31, 32, 33, 34, 35] | 6 => [0, 1, 2, 3, 4, 5, 6, 7, 8, 9, 10, 11, 12, 13, 14, 15, 16, 17, 18, 19, 20, 21, 22, 23, 24, 25, 26, 27, 28, 29, 30, 31, 32, 33, 34, 35, 36, 37, 38, 39] | _ => [], keep := fun i => match i with  | _ => [], n := 124 }
theorem proof_Lacks.eq (t0 : Value) (t1 : Value) (t2 : Value) (h0 : PH) (R : Value → PH → Prop) : codeF PG proof_Lacks.ann 200 (bodyOf Tryz.f20) (endH PG Tryz.f20 R) (fun t => (#[t0, t1, t2] : Array Value).getD t undef) h0 = proof_Lacks t0 t1 t2 h0 R := by kernel_rfl
theorem proof_Lacks.call {t0 : Value} {t1 : Value} {t2 : Value} {h0 : PH} {R : Value → PH → Prop} (H : proof_Lacks t0 t1 t2 h0 R) : CallsH PG id_proof_Lacks #[t0, t1, t2] h0 R :=
  callsF_by proof_Lacks.ann 200 mix Tryz.func20 (by kernel_rfl) (by kernel_rfl) (by kernel_rfl) (by kernel_rfl) (by simp [Tryz.ntmps20]) (proof_Lacks.eq t0 t1 t2 h0 R) H
def chain_Chain_Timeout_2 (t0 : Value) (t1 : Value) (h0 : PH) (R : Value → PH → Prop) : Prop :=
 popO (SemE PG h0 (Instr.loadAt T_uint64 t0)) fun v1 =>
 popO (SemP PG (Instr.fieldAt T_api_Packet t1 2)) fun v2 =>
 popO (SemE PG h0 (Instr.loadAt T_uint64 v2)) fun v3 =>
 popO (SemP PG (binOp BinOp.sub T_uint64 v3 (Value.int IntKind.u64 1))) fun v4 =>
 popO (SemP PG (binOp BinOp.geq T_uint64 v1 v4)) fun v5 =>
 R v5 h0
def chain_Chain_Timeout_2.ann : Ann := { b := fun i => match i with  | _ => #[], ord := fun i => match i with  | _ => [], keep := fun i => match i with  | _ => [], n := 8 }
theorem chain_Chain_Timeout_2.eq (t0 : Value) (t1 : Value) (h0 : PH) (R : Value → PH → Prop) : codeF PG chain_Chain_Timeout_2.ann 200 (bodyOf Tryz.f89) (endH PG Tryz.f89 R) (fun t => (#[t0, t1] : Array Value).getD t undef) h0 = chain_Chain_Timeout_2 t0 t1 h0 R := by kernel_rfl
theorem chain_Chain_Timeout_2.call {t0 : Value} {t1 : Value} {h0 : PH} {R : Value → PH → Prop} (H : chain_Chain_Timeout_2 t0 t1 h0 R) : CallsH PG id_chain_Chain_Timeout_2 #[t0, t1] h0 R :=
  callsF_by chain_Chain_Timeout_2.ann 200 mix Tryz.func89 (by kernel_rfl) (by kernel_rfl) (by kernel_rfl) (by kernel_rfl) (by simp [Tryz.ntmps89]) (chain_Chain_Timeout_2.eq t0 t1 h0 R) H
def chain_ledger_Log_b49 (R : Value → PH → Prop) (n48 : List Value → PH → Prop) (t0 : Value) (t2 : Value) (t4 : Value) (t7 : Value) (t8 : Value) (h0 : PH) : Prop :=
 popO (SemP PG (nilS t0)) fun v50 =>
 popO (SemP PG (Instr.fieldAt T_chain_ledger v50 2)) fun v51 =>
 popO (SemE PG h0 (Instr.loadAt T_sl_sl_api_Note v51)) fun v52 =>
 popO (SemP PG (Instr.fieldAt T_api_Place t4 0)) fun v53 =>
 popO (SemE PG h0 (Instr.loadAt T_uint64 v53)) fun v54 =>
 popO (SemP PG (nilS t0)) fun v55 =>
 popO (SemP PG (Instr.fieldAt T_chain_ledger v55 1)) fun v56 =>
 popO (SemE PG h0 (Instr.loadAt T_uint64 v56)) fun v57 =>
 popO (SemP PG (binOp BinOp.sub T_uint64 v54 v57)) fun v58 =>
 popO (SemP PG (Instr.indexAt T_sl_sl_api_Note v52 v58)) fun v59 =>
 popO (SemE PG h0 (Instr.loadAt T_sl_api_Note v59)) fun v60 =>
 popO (SemP PG (Instr.fieldAt T_api_Place t4 1)) fun v61 =>
 popO (SemE PG h0 (Instr.loadAt T_int v61)) fun v62 =>
 popO (SemP PG (Builtin.len_ #[T_sl_api_Note] T_int #[v60])) fun v63 =>
 popO (SemP PG (Builtin.min_ #[T_int, T_int] T_int #[v62, v63])) fun v64 =>
 popO (SemP PG (Builtin.max_ #[T_int, T_int] T_int #[(Value.int IntKind.i64 0), v64])) fun v65 =>
 popO (SemP PG (Instr.fieldAt T_api_Place t4 1)) fun v66 =>
 SemH PG (storeS T_int v66 v65) h0 fun v67 h68 =>
 popO (SemP PG (Builtin.len_ #[T_sl_api_Note] T_int #[v60])) fun v69 =>
 popO (SemP PG (Instr.fieldAt T_api_Place t4 1)) fun v70 =>
 popO (SemE PG h68 (Instr.loadAt T_int v70)) fun v71 =>
 popO (SemP PG (binOp BinOp.sub T_int v69 v71)) fun v72 =>
 popO (SemP PG (Builtin.len_ #[T_sl_api_Note] T_int #[t8])) fun v73 =>
 popO (SemP PG (binOp BinOp.sub T_int t2 v73)) fun v74 =>
 popO (SemP PG (Builtin.min_ #[T_int, T_int] T_int #[v72, v74])) fun v75 =>
 popO (SemP PG (Builtin.max_ #[T_int, T_int] T_int #[(Value.int IntKind.i64 0), v75])) fun v76 =>
 popO (SemP PG (Instr.fieldAt T_api_Place t4 1)) fun v77 =>
 popO (SemE PG h68 (Instr.loadAt T_int v77)) fun v78 =>
 popO (SemP PG (Instr.fieldAt T_api_Place t4 1)) fun v79 =>
 popO (SemE PG h68 (Instr.loadAt T_int v79)) fun v80 =>
 popO (SemP PG (binOp BinOp.add T_int v80 v76)) fun v81 =>
 popO (SemP PG (Instr.sliceAt T_sl_api_Note v60 (some v78) (some v81) none)) fun v82 =>
 SemH PG (Builtin.append_ #[T_sl_api_Note, T_sl_api_Note] T_sl_api_Note #[t8, v82]) h68 fun v83 h84 =>
 popO (SemP PG (Instr.fieldAt T_api_Place t4 1)) fun v85 =>
 popO (SemE PG h84 (Instr.loadAt T_int v85)) fun v86 =>
 popO (SemP PG (binOp BinOp.add T_int v86 v76)) fun v87 =>
 popO (SemP PG (Instr.fieldAt T_api_Place t4 1)) fun v88 =>
 SemH PG (storeS T_int v88 v87) h84 fun v89 h90 =>
 popO (SemP PG (Instr.fieldAt T_api_Place t4 1)) fun v91 =>
 popO (SemE PG h90 (Instr.loadAt T_int v91)) fun v92 =>
 popO (SemP PG (Builtin.len_ #[T_sl_api_Note] T_int #[v60])) fun v93 =>
 popO (SemP PG (binOp BinOp.lss T_int v92 v93)) fun v94 =>
 gopV (yV v94) false (fun k97 => popO (SemP PG (Instr.fieldAt T_api_Place t4 0)) fun v98 => k97 v98 h90) h90 fun v95 h96 =>
 gopV (yV v94) false (fun k101 => popO (SemE PG h96 (Instr.loadAt T_uint64 v95)) fun v102 => k101 v102 h96) h96 fun v99 h100 =>
 gopV (yV v94) false (fun k105 => k105 t0 h100) h100 fun v103 h104 =>
 gopV (yV v94) false (fun k108 => popO (SemP PG (nilS v103)) fun v109 => k108 v109 h104) h104 fun v106 h107 =>
 gopV (yV v94) false (fun k112 => popO (SemP PG (Instr.fieldAt T_chain_ledger v106 0)) fun v113 => k112 v113 h107) h107 fun v110 h111 =>
 gopV (yV v94) false (fun k116 => popO (SemE PG h111 (Instr.loadAt T_p_store_Store v110)) fun v117 => k116 v117 h111) h111 fun v114 h115 =>
 gopV (yV v94) false (fun k120 => CallsH PG id_store_Store_Height #[v114] h115 fun v121 h122 => k120 v121 h122) h115 fun v118 h119 =>
 ((yV v94 == some false) = true → SemE PG h119 (Instr.loadAt T_uint64 v95) = some v99) ∧ (gopV (yV v94) false (fun k125 => popO (SemE PG h119 (binS BinOp.eql T_uint64 (.tmp 82) (.tmp 87) v99 v118)) fun v126 => k125 v126 h119) h119 fun v123 h124 =>
 popO (pickV v94 (Value.bool true) v123) fun v127 =>
 condV v127
 (popO (SemE PG h124 (Instr.loadAt T_api_Place t4)) fun v128 =>
 SemH PG (storeS T_api_Place t7 v128) h124 fun v129 h130 =>
 (popO (SemE PG h130 (Instr.loadAt T_api_Place t7)) fun v131 =>
 R (Value.tuple #[v83, v131]) h130))
 (popO (SemP PG (Instr.fieldAt T_api_Place t4 0)) fun v132 =>
 popO (SemE PG h124 (Instr.loadAt T_uint64 v132)) fun v133 =>
 popO (SemP PG (binOp BinOp.add T_uint64 v133 (Value.int IntKind.u64 1))) fun v134 =>
 popO (SemP PG (Instr.build T_api_Place #[(0, v134)])) fun v135 =>
 SemH PG (storeS T_api_Place t4 v135) h124 fun v136 h137 =>
 n48 [t0, t2, t4, t7, v83] h137))
def chain_ledger_Log (t0 : Value) (t1 : Value) (t2 : Value) (h0 : PH) (R : Value → PH → Prop) : Prop :=
 ∀ r1, h0 r1 = none → bindH (PH.set h0 r1 (.cells (Value.cells t1) T_api_Place)) fun h2 =>
 ∀ r3, h2 r3 = none → bindH (PH.set h2 r3 (.cells (zcells PG T_api_Place) T_api_Place)) fun h4 =>
 popO (SemP PG (Instr.fieldAt T_api_Place (Value.pointer (some ⟨r1, 0, none⟩)) 0)) fun v5 =>
 popO (SemE PG h4 (Instr.loadAt T_uint64 v5)) fun v6 =>
 popO (SemP PG (nilS t0)) fun v7 =>
 popO (SemP PG (Instr.fieldAt T_chain_ledger v7 1)) fun v8 =>
 popO (SemE PG h4 (Instr.loadAt T_uint64 v8)) fun v9 =>
 popO (SemP PG (binOp BinOp.lss T_uint64 v6 v9)) fun v10 =>
 gopV (yV v10) false (fun k13 => popO (SemP PG (Instr.fieldAt T_api_Place (Value.pointer (some ⟨r1, 0, none⟩)) 0)) fun v14 => k13 v14 h4) h4 fun v11 h12 =>
 gopV (yV v10) false (fun k17 => popO (SemE PG h12 (Instr.loadAt T_uint64 v11)) fun v18 => k17 v18 h12) h12 fun v15 h16 =>
 gopV (yV v10) false (fun k21 => k21 t0 h16) h16 fun v19 h20 =>
 gopV (yV v10) false (fun k24 => popO (SemP PG (nilS v19)) fun v25 => k24 v25 h20) h20 fun v22 h23 =>
 gopV (yV v10) false (fun k28 => popO (SemP PG (Instr.fieldAt T_chain_ledger v22 0)) fun v29 => k28 v29 h23) h23 fun v26 h27 =>
 gopV (yV v10) false (fun k32 => popO (SemE PG h27 (Instr.loadAt T_p_store_Store v26)) fun v33 => k32 v33 h27) h27 fun v30 h31 =>
 gopV (yV v10) false (fun k36 => CallsH PG id_store_Store_Height #[v30] h31 fun v37 h38 => k36 v37 h38) h31 fun v34 h35 =>
 ((yV v10 == some false) = true → SemE PG h35 (Instr.loadAt T_uint64 v11) = some v15) ∧ (gopV (yV v10) false (fun k41 => popO (SemP PG (binOp BinOp.gtr T_uint64 v15 v34)) fun v42 => k41 v42 h35) h35 fun v39 h40 =>
 popO (pickV v10 (Value.bool true) v39) fun v43 =>
 condV v43
 (popO (SemE PG h40 (Instr.loadAt T_api_Place (Value.pointer (some ⟨r1, 0, none⟩)))) fun v44 =>
 SemH PG (storeS T_api_Place (Value.pointer (some ⟨r3, 0, none⟩)) v44) h40 fun v45 h46 =>
 (popO (SemE PG h46 (Instr.loadAt T_api_Place (Value.pointer (some ⟨r3, 0, none⟩)))) fun v47 =>
 R (Value.tuple #[(Value.slice none 0 0), v47]) h46))
 (LoopL [0, 2, 4, 7, 8] (fun n48 ρ h => chain_ledger_Log_b49 R n48 (ρ 0) (ρ 2) (ρ 4) (ρ 7) (ρ 8) h) [t0, t2, (Value.pointer (some ⟨r1, 0, none⟩)), (Value.pointer (some ⟨r3, 0, none⟩)), (Value.slice none 0 0)] h40))
def chain_ledger_Log.ann : Ann := { b := fun i => match i with | 2 => #[0, 1, 0, 4, 12, 28, 63, 127, 255, 511, 255, 1279, 3327, 7423, 15615, 32767, 65535] | 3 => #[0, 0, 3] | 4 => #[0, 1, 3, 7, 0, 16, 0, 64, 192, 448, 1008, 2047, 4095, 8191] | 9 => #[0, 1, 0, 4, 15, 31, 63, 127, 63, 319, 831, 1855, 3903, 8191, 16383] | 10 => #[0, 0, 1, 7] | _ => #[], ord := fun i => match i with | 2 => [0, 1, 2, 3, 4, 5, 6, 7, 8, 9, 10, 11, 12, 13, 14, 15, 16] | 3 => [0, 1, 2] | 4 => [0, 1, 2, 3, 4, 5, 6, 7, 8, 9, 10, 11, 12, 13] | 9 => [0, 1, 2, 3, 4, 5, 6, 7, 8, 9, 10, 11, 12, 13, 14] | 10 => [0, 1, 2, 3] | _ => [], keep := fun i => match i with | 4 => [0, 2, 4, 7, 8] | _ => [], n := 96 }
theorem chain_ledger_Log.eq (t0 : Value) (t1 : Value) (t2 : Value) (h0 : PH) (R : Value → PH → Prop) : codeF PG chain_ledger_Log.ann 200 (bodyOf Tryz.f21) (endH PG Tryz.f21 R) (fun t => (#[t0, t1, t2] : Array Value).getD t undef) h0 = chain_ledger_Log t0 t1 t2 h0 R := by kernel_rfl
theorem chain_ledger_Log.call {t0 : Value} {t1 : Value} {t2 : Value} {h0 : PH} {R : Value → PH → Prop} (H : chain_ledger_Log t0 t1 t2 h0 R) : CallsH PG id_chain_ledger_Log #[t0, t1, t2] h0 R :=
  callsF_by chain_ledger_Log.ann 200 mix Tryz.func21 (by kernel_rfl) (by kernel_rfl) (by kernel_rfl) (by kernel_rfl) (by simp [Tryz.ntmps21]) (chain_ledger_Log.eq t0 t1 t2 h0 R) H
def chain_ledger_First (t0 : Value) (h0 : PH) (R : Value → PH → Prop) : Prop :=
 ∀ r1, h0 r1 = none → bindH (PH.set h0 r1 (.cells (zcells PG T_api_Place) T_api_Place)) fun h2 =>
 popO (SemP PG (nilS t0)) fun v3 =>
 popO (SemP PG (Instr.fieldAt T_chain_ledger v3 1)) fun v4 =>
 popO (SemE PG h2 (Instr.loadAt T_uint64 v4)) fun v5 =>
 popO (SemP PG (Instr.build T_api_Place #[(0, v5)])) fun v6 =>
 SemH PG (storeS T_api_Place (Value.pointer (some ⟨r1, 0, none⟩)) v6) h2 fun v7 h8 =>
 popO (SemE PG h8 (Instr.loadAt T_api_Place (Value.pointer (some ⟨r1, 0, none⟩)))) fun v9 =>
 R v9 h8
def chain_ledger_First.ann : Ann := { b := fun i => match i with  | _ => #[], ord := fun i => match i with  | _ => [], keep := fun i => match i with  | _ => [], n := 8 }
theorem chain_ledger_First.eq (t0 : Value) (h0 : PH) (R : Value → PH → Prop) : codeF PG chain_ledger_First.ann 200 (bodyOf Tryz.f22) (endH PG Tryz.f22 R) (fun t => (#[t0] : Array Value).getD t undef) h0 = chain_ledger_First t0 h0 R := by kernel_rfl
theorem chain_ledger_First.call {t0 : Value} {h0 : PH} {R : Value → PH → Prop} (H : chain_ledger_First t0 h0 R) : CallsH PG id_chain_ledger_First #[t0] h0 R :=
  callsF_by chain_ledger_First.ann 200 mix Tryz.func22 (by kernel_rfl) (by kernel_rfl) (by kernel_rfl) (by kernel_rfl) (by simp [Tryz.ntmps22]) (chain_ledger_First.eq t0 h0 R) H
def carracklaw13_ChainMade (t0 : Value) (t1 : Value) (t2 : Value) (h0 : PH) (R : Value → PH → Prop) : Prop :=
 CallsH PG id_carracklaw13_awake #[] h0 fun v1 h2 =>
 popO (SemP PG (Op.unary UnOp.not v1)) fun v3 =>
 condV v3
 (R (Value.bool false) h2)
 (CallsH PG id_chain_New #[t0, t1, t2] h2 fun v4 h5 =>
 popO (SemP PG (Instr.extract v4 0)) fun v6 =>
 popO (SemP PG (Instr.extract v4 1)) fun v7 =>
 popO (SemP PG (binOp BinOp.lss T_int t0 (Value.int IntKind.i64 0))) fun v8 =>
 gopV (yV v8) false (fun k11 => k11 t0 h5) h5 fun v9 h10 =>
 gopV (yV v8) false (fun k14 => popO (SemP PG (binOp BinOp.gtr T_int v9 (Value.int IntKind.i64 1))) fun v15 => k14 v15 h10) h10 fun v12 h13 =>
 popO (pickV v8 (Value.bool true) v12) fun v16 =>
 gopV (yV v16) false (fun k19 => k19 t2 h13) h13 fun v17 h18 =>
 gopV (yV v16) false (fun k22 => popO (SemE PG h18 (binS BinOp.eql T_uint64 (.tmp 27) (.const (Value.int IntKind.u64 0)) v17 (Value.int IntKind.u64 0))) fun v23 => k22 v23 h18) h18 fun v20 h21 =>
 popO (pickV v16 (Value.bool true) v20) fun v24 =>
 condV v24
 (popO (SemE PG h21 (binS BinOp.eql T_api_Errno (.tmp 30) (.const (Value.int IntKind.i64 1)) v7 (Value.int IntKind.i64 1))) fun v25 =>
 gopV (yV v25) true (fun k28 => k28 v6 h21) h21 fun v26 h27 =>
 gopV (yV v25) true (fun k31 => popO (SemE PG h27 (binS BinOp.eql T_p_chain_Chain (.tmp 33) (.const (Value.pointer none)) v26 (Value.pointer none))) fun v32 => k31 v32 h27) h27 fun v29 h30 =>
 popO (pickV v25 v29 (Value.bool false)) fun v33 =>
 R v33 h30)
 (popO (SemE PG h21 (binS BinOp.neq T_api_Errno (.tmp 36) (.const (Value.int IntKind.i64 0)) v7 (Value.int IntKind.i64 0))) fun v34 =>
 gopV (yV v34) false (fun k37 => k37 v6 h21) h21 fun v35 h36 =>
 gopV (yV v34) false (fun k40 => popO (SemE PG h36 (binS BinOp.eql T_p_chain_Chain (.tmp 39) (.const (Value.pointer none)) v35 (Value.pointer none))) fun v41 => k40 v41 h36) h36 fun v38 h39 =>
 popO (pickV v34 (Value.bool true) v38) fun v42 =>
 condV v42
 (R (Value.bool false) h39)
 (popO (SemP PG (nilS v6)) fun v43 =>
 popO (SemP PG (Instr.fieldAt T_chain_Chain v43 0)) fun v44 =>
 popO (SemP PG (nilS v6)) fun v45 =>
 popO (SemP PG (Instr.fieldAt T_chain_Chain v45 0)) fun v46 =>
 CallsH PG id_chain_ledger_First #[v46] h39 fun v47 h48 =>
 (CallsH PG id_chain_ledger_Log #[v44, v47, (Value.int IntKind.i64 9)] h48 fun v49 h50 =>
 (popO (SemP PG (Instr.extract v49 0)) fun v51 =>
 popO (SemP PG (Instr.extract v49 1)) fun v52 =>
 ∀ r53, h50 r53 = none → bindH (PH.set h50 r53 (.cells (zcells PG T_api_Place) T_api_Place)) fun h54 =>
 SemH PG (storeS T_api_Place (Value.pointer (some ⟨r53, 0, none⟩)) v52) h54 fun v55 h56 =>
 (popO (SemP PG (nilS v6)) fun v57 =>
 popO (SemP PG (Instr.fieldAt T_chain_Chain v57 0)) fun v58 =>
 popO (SemP PG (Instr.fieldAt T_chain_ledger v58 0)) fun v59 =>
 popO (SemE PG h56 (Instr.loadAt T_p_store_Store v59)) fun v60 =>
 CallsH PG id_store_Store_Height #[v60] h56 fun v61 h62 =>
 (popO (SemE PG h62 (binS BinOp.eql T_uint64 (.tmp 58) (.tmp 59) v61 t1)) fun v63 =>
 gopV (yV v63) true (fun k66 => k66 v6 h62) h62 fun v64 h65 =>
 gopV (yV v63) true (fun k69 => k69 t2 h65) h65 fun v67 h68 =>
 gopV (yV v63) true (fun k72 => CallsH PG id_chain_Chain_Next #[v64] h68 fun v73 h74 => k72 v73 h74) h68 fun v70 h71 =>
 (gopV (yV v63) true (fun k77 => popO (SemE PG h71 (binS BinOp.eql T_uint64 (.tmp 63) (.tmp 64) v70 v67)) fun v78 => k77 v78 h71) h71 fun v75 h76 =>
 popO (pickV v63 v75 (Value.bool false)) fun v79 =>
 gopV (yV v79) true (fun k82 => k82 v6 h76) h76 fun v80 h81 =>
 gopV (yV v79) true (fun k85 => popO (SemP PG (nilS v80)) fun v86 => k85 v86 h81) h81 fun v83 h84 =>
 gopV (yV v79) true (fun k89 => popO (SemP PG (Instr.fieldAt T_chain_Chain v83 0)) fun v90 => k89 v90 h84) h84 fun v87 h88 =>
 gopV (yV v79) true (fun k93 => CallsH PG id_chain_ledger_Map #[v87] h88 fun v94 h95 => k93 v94 h95) h88 fun v91 h92 =>
 (gopV (yV v79) true (fun k98 => popO (SemP PG (Builtin.len_ #[T_sl_api_Pair] T_int #[v91])) fun v99 => k98 v99 h92) h92 fun v96 h97 =>
 gopV (yV v79) true (fun k102 => popO (SemE PG h97 (binS BinOp.eql T_int (.tmp 72) (.const (Value.int IntKind.i64 0)) v96 (Value.int IntKind.i64 0))) fun v103 => k102 v103 h97) h97 fun v100 h101 =>
 popO (pickV v79 v100 (Value.bool false)) fun v104 =>
 gopV (yV v104) true (fun k107 => k107 v6 h101) h101 fun v105 h106 =>
 gopV (yV v104) true (fun k110 => CallsH PG id_chain_Chain_Known #[v105] h106 fun v111 h112 => k110 v111 h112) h106 fun v108 h109 =>
 (gopV (yV v104) true (fun k115 => popO (SemP PG (Builtin.len_ #[T_sl_uint64] T_int #[v108])) fun v116 => k115 v116 h109) h109 fun v113 h114 =>
 gopV (yV v104) true (fun k119 => popO (SemE PG h114 (binS BinOp.eql T_int (.tmp 78) (.const (Value.int IntKind.i64 0)) v113 (Value.int IntKind.i64 0))) fun v120 => k119 v120 h114) h114 fun v117 h118 =>
 popO (pickV v104 v117 (Value.bool false)) fun v121 =>
 gopV (yV v121) true (fun k124 => k124 v51 h118) h118 fun v122 h123 =>
 gopV (yV v121) true (fun k127 => popO (SemP PG (Builtin.len_ #[T_sl_api_Note] T_int #[v122])) fun v128 => k127 v128 h123) h123 fun v125 h126 =>
 gopV (yV v121) true (fun k131 => popO (SemE PG h126 (binS BinOp.eql T_int (.tmp 83) (.const (Value.int IntKind.i64 0)) v125 (Value.int IntKind.i64 0))) fun v132 => k131 v132 h126) h126 fun v129 h130 =>
 popO (pickV v121 v129 (Value.bool false)) fun v133 =>
 gopV (yV v133) true (fun k136 => popO (SemE PG h130 (Instr.loadAt T_api_Place (Value.pointer (some ⟨r53, 0, none⟩)))) fun v137 => k136 v137 h130) h130 fun v134 h135 =>
 gopV (yV v133) true (fun k140 => k140 v6 h135) h135 fun v138 h139 =>
 gopV (yV v133) true (fun k143 => popO (SemP PG (nilS v138)) fun v144 => k143 v144 h139) h139 fun v141 h142 =>
 gopV (yV v133) true (fun k147 => popO (SemP PG (Instr.fieldAt T_chain_Chain v141 0)) fun v148 => k147 v148 h142) h142 fun v145 h146 =>
 gopV (yV v133) true (fun k151 => CallsH PG id_chain_ledger_First #[v145] h146 fun v152 h153 => k151 v152 h153) h146 fun v149 h150 =>
 ((yV v133 == some true) = true → SemE PG h150 (Instr.loadAt T_api_Place (Value.pointer (some ⟨r53, 0, none⟩))) = some v134) ∧ (gopV (yV v133) true (fun k156 => popO (SemE PG h150 (binS BinOp.eql T_api_Place (.tmp 87) (.tmp 91) v134 v149)) fun v157 => k156 v157 h150) h150 fun v154 h155 =>
 popO (pickV v133 v154 (Value.bool false)) fun v158 =>
 gopV (yV v158) true (fun k161 => popO (SemE PG h155 (Instr.loadAt T_api_Place (Value.pointer (some ⟨r53, 0, none⟩)))) fun v162 => k161 v162 h155) h155 fun v159 h160 =>
 gopV (yV v158) true (fun k165 => k165 t1 h160) h160 fun v163 h164 =>
 gopV (yV v158) true (fun k168 => popO (SemP PG (Instr.build T_api_Place #[(0, v163)])) fun v169 => k168 v169 h164) h164 fun v166 h167 =>
 gopV (yV v158) true (fun k172 => popO (SemE PG h167 (binS BinOp.eql T_api_Place (.tmp 95) (.tmp 97) v159 v166)) fun v173 => k172 v173 h167) h167 fun v170 h171 =>
 popO (pickV v158 v170 (Value.bool false)) fun v174 =>
 R v174 h171)))))))))))
def carracklaw13_ChainMade.ann : Ann := { b := fun i => match i with | 8 => #[0, 1, 3, 0, 8, 24, 56, 127, 255, 511, 511, 0, 3071, 8191] | 9 => #[0, 1, 3, 7, 15, 31, 0, 127, 255, 511, 1023, 511, 4095, 8191, 16383, 32767, 65535, 131071, 262143, 524287, 1048575, 2097151, 4194303, 8388607, 16777215, 33554431, 67108863, 134217727, 268435455, 536870911, 1073741823, 2147483647, 4294967295, 8589934591, 17179869183, 17179869183, 51539607551, 120259084287, 257698037759, 549755813887, 1099511627775, 2199023255551, 4398046511103, 4398046511103, 13194139533311, 35184372088831, 70368744177663, 140737488355327] | _ => #[], ord := fun i => match i with | 8 => [0, 1, 2, 3, 4, 5, 6, 7, 8, 9, 10, 11, 12, 13] | 9 => [0, 1, 2, 3, 4, 6, 5, 7, 8, 9, 11, 10, 12, 13, 14, 15, 16, 17, 18, 19, 20, 21, 22, 23, 24, 25, 26, 27, 28, 29, 30, 31, 32, 33, 34, 35, 36, 37, 38, 39, 40, 41, 42, 43, 44, 45, 46, 47] | _ => [], keep := fun i => match i with  | _ => [], n := 100 }
theorem carracklaw13_ChainMade.eq (t0 : Value) (t1 : Value) (t2 : Value) (h0 : PH) (R : Value → PH → Prop) : codeF PG carracklaw13_ChainMade.ann 200 (bodyOf Tryz.f7) (endH PG Tryz.f7 R) (fun t => (#[t0, t1, t2] : Array Value).getD t undef) h0 = carracklaw13_ChainMade t0 t1 t2 h0 R := by kernel_rfl
theorem carracklaw13_ChainMade.call {t0 : Value} {t1 : Value} {t2 : Value} {h0 : PH} {R : Value → PH → Prop} (H : carracklaw13_ChainMade t0 t1 t2 h0 R) : CallsH PG id_carracklaw13_ChainMade #[t0, t1, t2] h0 R :=
  callsF_by carracklaw13_ChainMade.ann 200 mix Tryz.func7 (by kernel_rfl) (by kernel_rfl) (by kernel_rfl) (by kernel_rfl) (by simp [Tryz.ntmps7]) (carracklaw13_ChainMade.eq t0 t1 t2 h0 R) H
def chain_Chain_Next (t0 : Value) (h0 : PH) (R : Value → PH → Prop) : Prop :=
 popO (SemP PG (nilS t0)) fun v1 =>
 popO (SemP PG (Instr.fieldAt T_chain_Chain v1 3)) fun v2 =>
 popO (SemE PG h0 (Instr.loadAt T_uint64 v2)) fun v3 =>
 R v3 h0
def chain_Chain_Next.ann : Ann := { b := fun i => match i with  | _ => #[], ord := fun i => match i with  | _ => [], keep := fun i => match i with  | _ => [], n := 7 }
theorem chain_Chain_Next.eq (t0 : Value) (h0 : PH) (R : Value → PH → Prop) : codeF PG chain_Chain_Next.ann 200 (bodyOf Tryz.f26) (endH PG Tryz.f26 R) (fun t => (#[t0] : Array Value).getD t undef) h0 = chain_Chain_Next t0 h0 R := by kernel_rfl
theorem chain_Chain_Next.call {t0 : Value} {h0 : PH} {R : Value → PH → Prop} (H : chain_Chain_Next t0 h0 R) : CallsH PG id_chain_Chain_Next #[t0] h0 R :=
  callsF_by chain_Chain_Next.ann 200 mix Tryz.func26 (by kernel_rfl) (by kernel_rfl) (by kernel_rfl) (by kernel_rfl) (by simp [Tryz.ntmps26]) (chain_Chain_Next.eq t0 h0 R) H
def chain_ledger_Map_b7 (R : Value → PH → Prop) (n6 : List Value → PH → Prop) (t3 : Value) (t10 : Value) (h0 : PH) : Prop :=
 SemH PG (Instr.next t10 false T_) h0 fun v8 h9 =>
 popO (SemP PG (Instr.extract v8 0)) fun v10 =>
 condV v10
 (SemH PG (Instr.entry t10) h9 fun v11 h12 =>
 popO (SemP PG (Instr.extract v11 0)) fun v13 =>
 popO (SemP PG (Instr.extract v11 1)) fun v14 =>
 popO (SemP PG (Instr.build T_api_Pair #[(0, v13), (1, v14)])) fun v15 =>
 popO (SemA PG (Instr.buildSlice T_sl_api_Pair 1 #[(0, v15)])) fun x17 => ∀ r16, h12 r16 = none → popO (SemP PG (x17.2 r16)) fun v18 => bindH (PH.set h12 r16 x17.1) fun h19 =>
 SemH PG (Builtin.append_ #[T_sl_api_Pair, T_sl_api_Pair] T_sl_api_Pair #[t3, v18]) h19 fun v20 h21 =>
 n6 [v20, t10] h21)
 (CallsH PG id_slices_SortFunc_sl_api_Pair_api_Pair #[t3, (Value.func (Fn.func id_chain_ledger_Map_1) #[] #[])] h9 fun v22 h23 =>
 R t3 h23)
def chain_ledger_Map (t0 : Value) (h0 : PH) (R : Value → PH → Prop) : Prop :=
 popO (SemP PG (nilS t0)) fun v1 =>
 popO (SemP PG (Instr.fieldAt T_chain_ledger v1 4)) fun v2 =>
 popO (SemE PG h0 (Instr.loadAt T_map_string_string v2)) fun v3 =>
 SemH PG (Instr.range T_map_string_string v3) h0 fun v4 h5 =>
 LoopL [3, 10] (fun n6 ρ h => chain_ledger_Map_b7 R n6 (ρ 3) (ρ 10) h) [(Value.slice none 0 0), v4] h5
def chain_ledger_Map.ann : Ann := { b := fun i => match i with  | _ => #[], ord := fun i => match i with  | _ => [], keep := fun i => match i with | 3 => [3, 10] | _ => [], n := 25 }
theorem chain_ledger_Map.eq (t0 : Value) (h0 : PH) (R : Value → PH → Prop) : codeF PG chain_ledger_Map.ann 200 (bodyOf Tryz.f27) (endH PG Tryz.f27 R) (fun t => (#[t0] : Array Value).getD t undef) h0 = chain_ledger_Map t0 h0 R := by kernel_rfl
theorem chain_ledger_Map.call {t0 : Value} {h0 : PH} {R : Value → PH → Prop} (H : chain_ledger_Map t0 h0 R) : CallsH PG id_chain_ledger_Map #[t0] h0 R :=
  callsF_by chain_ledger_Map.ann 200 mix Tryz.func27 (by kernel_rfl) (by kernel_rfl) (by kernel_rfl) (by kernel_rfl) (by simp [Tryz.ntmps27]) (chain_ledger_Map.eq t0 h0 R) H
def chain_ledger_Map_1 (t0 : Value) (t1 : Value) (h0 : PH) (R : Value → PH → Prop) : Prop :=
 ∀ r1, h0 r1 = none → bindH (PH.set h0 r1 (.cells (Value.cells t0) T_api_Pair)) fun h2 =>
 ∀ r3, h2 r3 = none → bindH (PH.set h2 r3 (.cells (Value.cells t1) T_api_Pair)) fun h4 =>
 popO (SemP PG (Instr.fieldAt T_api_Pair (Value.pointer (some ⟨r1, 0, none⟩)) 0)) fun v5 =>
 popO (SemE PG h4 (Instr.loadAt T_string v5)) fun v6 =>
 popO (SemP PG (Instr.fieldAt T_api_Pair (Value.pointer (some ⟨r3, 0, none⟩)) 0)) fun v7 =>
 popO (SemE PG h4 (Instr.loadAt T_string v7)) fun v8 =>
 CallsH PG id_cmp_Compare_string #[v6, v8] h4 fun v9 h10 =>
 R v9 h10
def chain_ledger_Map_1.ann : Ann := { b := fun i => match i with  | _ => #[], ord := fun i => match i with  | _ => [], keep := fun i => match i with  | _ => [], n := 10 }
theorem chain_ledger_Map_1.eq (t0 : Value) (t1 : Value) (h0 : PH) (R : Value → PH → Prop) : codeF PG chain_ledger_Map_1.ann 200 (bodyOf Tryz.f59) (endH PG Tryz.f59 R) (fun t => (#[t0, t1] : Array Value).getD t undef) h0 = chain_ledger_Map_1 t0 t1 h0 R := by kernel_rfl
theorem chain_ledger_Map_1.call {t0 : Value} {t1 : Value} {h0 : PH} {R : Value → PH → Prop} (H : chain_ledger_Map_1 t0 t1 h0 R) : CallsH PG id_chain_ledger_Map_1 #[t0, t1] h0 R :=
  callsF_by chain_ledger_Map_1.ann 200 mix Tryz.func59 (by kernel_rfl) (by kernel_rfl) (by kernel_rfl) (by kernel_rfl) (by simp [Tryz.ntmps59]) (chain_ledger_Map_1.eq t0 t1 h0 R) H
def chain_Chain_Known (t0 : Value) (h0 : PH) (R : Value → PH → Prop) : Prop :=
 popO (SemP PG (nilS t0)) fun v1 =>
 popO (SemP PG (Instr.fieldAt T_chain_Chain v1 2)) fun v2 =>
 popO (SemE PG h0 (Instr.loadAt T_p_client_Client v2)) fun v3 =>
 CallsH PG id_client_Client_Heights #[v3] h0 fun v4 h5 =>
 R v4 h5
def chain_Chain_Known.ann : Ann := { b := fun i => match i with  | _ => #[], ord := fun i => match i with  | _ => [], keep := fun i => match i with  | _ => [], n := 8 }
theorem chain_Chain_Known.eq (t0 : Value) (h0 : PH) (R : Value → PH → Prop) : codeF PG chain_Chain_Known.ann 200 (bodyOf Tryz.f28) (endH PG Tryz.f28 R) (fun t => (#[t0] : Array Value).getD t undef) h0 = chain_Chain_Known t0 h0 R := by kernel_rfl
theorem chain_Chain_Known.call {t0 : Value} {h0 : PH} {R : Value → PH → Prop} (H : chain_Chain_Known t0 h0 R) : CallsH PG id_chain_Chain_Known #[t0] h0 R :=
  callsF_by chain_Chain_Known.ann 200 mix Tryz.func28 (by kernel_rfl) (by kernel_rfl) (by kernel_rfl) (by kernel_rfl) (by simp [Tryz.ntmps28]) (chain_Chain_Known.eq t0 h0 R) H
def client_Client_Heights (t0 : Value) (h0 : PH) (R : Value → PH → Prop) : Prop :=
 popO (SemP PG (nilS t0)) fun v1 =>
 popO (SemP PG (Instr.fieldAt T_client_Client v1 1)) fun v2 =>
 popO (SemE PG h0 (Instr.loadAt T_sl_uint64 v2)) fun v3 =>
 CallsH PG id_slices_Clone_sl_uint64_uint64 #[v3] h0 fun v4 h5 =>
 R v4 h5
def client_Client_Heights.ann : Ann := { b := fun i => match i with  | _ => #[], ord := fun i => match i with  | _ => [], keep := fun i => match i with  | _ => [], n := 8 }
theorem client_Client_Heights.eq (t0 : Value) (h0 : PH) (R : Value → PH → Prop) : codeF PG client_Client_Heights.ann 200 (bodyOf Tryz.f61) (endH PG Tryz.f61 R) (fun t => (#[t0] : Array Value).getD t undef) h0 = client_Client_Heights t0 h0 R := by kernel_rfl
theorem client_Client_Heights.call {t0 : Value} {h0 : PH} {R : Value → PH → Prop} (H : client_Client_Heights t0 h0 R) : CallsH PG id_client_Client_Heights #[t0] h0 R :=
  callsF_by client_Client_Heights.ann 200 mix Tryz.func61 (by kernel_rfl) (by kernel_rfl) (by kernel_rfl) (by kernel_rfl) (by simp [Tryz.ntmps61]) (client_Client_Heights.eq t0 h0 R) H
def slices_Clone_sl_uint64_uint64 (t0 : Value) (h0 : PH) (R : Value → PH → Prop) : Prop :=
 popO (SemE PG h0 (binS BinOp.eql T_sl_uint64 (.tmp 3) (.const (Value.slice none 0 0)) t0 (Value.slice none 0 0))) fun v1 =>
 condV v1
 (R (Value.slice none 0 0) h0)
 (popO (SemA PG (Instr.buildSlice T_sl_uint64 0 #[])) fun x3 => ∀ r2, h0 r2 = none → popO (SemP PG (x3.2 r2)) fun v4 => bindH (PH.set h0 r2 x3.1) fun h5 =>
 SemH PG (Builtin.append_ #[T_sl_uint64, T_sl_uint64] T_sl_uint64 #[v4, t0]) h5 fun v6 h7 =>
 R v6 h7)
def slices_Clone_sl_uint64_uint64.ann : Ann := { b := fun i => match i with  | _ => #[], ord := fun i => match i with  | _ => [], keep := fun i => match i with  | _ => [], n := 8 }
theorem slices_Clone_sl_uint64_uint64.eq (t0 : Value) (h0 : PH) (R : Value → PH → Prop) : codeF PG slices_Clone_sl_uint64_uint64.ann 200 (bodyOf Tryz.f133) (endH PG Tryz.f133 R) (fun t => (#[t0] : Array Value).getD t undef) h0 = slices_Clone_sl_uint64_uint64 t0 h0 R := by kernel_rfl
theorem slices_Clone_sl_uint64_uint64.call {t0 : Value} {h0 : PH} {R : Value → PH → Prop} (H : slices_Clone_sl_uint64_uint64 t0 h0 R) : CallsH PG id_slices_Clone_sl_uint64_uint64 #[t0] h0 R :=
  callsF_by slices_Clone_sl_uint64_uint64.ann 200 mix Tryz.func133 (by kernel_rfl) (by kernel_rfl) (by kernel_rfl) (by kernel_rfl) (by simp [Tryz.ntmps133]) (slices_Clone_sl_uint64_uint64.eq t0 h0 R) H
end Go.Proofs.YtcoajnpchhmgjaaGreatDoor
